/- Entries of a change: what the program and the reference return. -/
import Derived.Test.YtpcajamacpbjcaaGreatZKEff
import Derived.Test.YtpcajamacpbjcaaGreatZKLy1
import Derived.Test.YtpcajamacpbjcaaGreatZKHead
import Derived.Test.YtpcajamacpbjcaaGreatZKRef15
import Derived.Test.YtpcajamacpbjcaaGreatZKMove
import Derived.Test.YtpcajamacpbjcaaGreatZKStg1
set_option maxHeartbeats 16000000
set_option maxRecDepth 100000
set_option linter.all false
namespace Go.Proofs.YtpcajamacpbjcaaGreat
open Lib (hid)
open Go.RowKit Go.Maps
variable {fn:Func}{a b w ws:Int}{ad:List Int}{H g k n:Nat}{p:Tmp}{t:TypeId}{v:Value}{W w':World}
open Go.Proofs.Tryz
def Ef (x w:Int):Bool:=decide (16<=x)&&(decide (x<w)&&(decide (x<24)||decide (96<=x)))
def eN (ad:List Int) (w:Int):Nat->Bool
 | 0=>true
 | k+1=>eN ad w k&&(Ef (ad[k]?.getD 0) w && !cc ad (ad[k]?.getD 0) k)
def dL (ad:List Int) (w:Int):Int:=if ak w=true then (if 32<ad.length then 4 else if eN ad w ad.length=true then 0 else 8) else 2
theorem nS(h:eN ad w n=true)(hk:k<=n):eN ad w k=true:=by
 induction n with
 | zero =>
  have:k=0:=by omega
  subst this;exact h
 | succ n ih =>
  rcases kq7 k (n+1) with a|a
  .simp only[eN,kqu] at h;exact ih h.1 (by omega)
  have:k=n+1:=by omega
  subst this;exact h
theorem zd(h:ak w=false):dL ad w=2:=by simp[dL,h]
theorem t6(h:ak w=true)(h2:32<ad.length):dL ad w=4:=by simp[dL,h,h2]
theorem pW(h:ak w=true)(h2:ad.length<=32)(hk:eN ad w k=false)(hn:k<=ad.length):dL ad w=8:=by
 have a:eN ad w ad.length=false:=by
  cases c:eN ad w ad.length with
  | false=>rfl
  | true=>rw[nS c hn] at hk;cases hk
 have b:¬ 32<ad.length:=by omega
 simp[dL,h,a,b]
theorem oy(h:ak w=true)(h2:ad.length<=32)(h3:eN ad w ad.length=true):dL ad w=0:=by
 have a:¬ 32<ad.length:=by omega
 simp[dL,h,h3,a]
theorem uV(h:dL ad w=0):ak w=true/\ad.length<=32/\eN ad w ad.length=true:=by
 unfold dL at h;split at h
 .split at h
  .simp at h
  split at h
  .exact ⟨by assumption,by omega,by assumption⟩
  simp at h
 simp at h
theorem rA(x w:Int):Ef x w=true↔16<=x/\x<w/\(x<24\/96<=x):=by simp[Ef]
theorem B7(h:eN ad w n=true)(hk:k<n):Ef (ad[k]?.getD 0) w=true/\cc ad (ad[k]?.getD 0) k=false:=by have:=nS h (show k+1<=n from hk);simp only[eN,kqu,kx7] at this;exact this.2
theorem zZ(h:Ef (ad[k]?.getD 0) w=false):eN ad w (k+1)=false:=by simp[eN,h]
theorem sH(h:cc ad (ad[k]?.getD 0) k=true):eN ad w (k+1)=false:=by simp[eN,h]
theorem qb(h0:eN ad w k=true)(h:Ef (ad[k]?.getD 0) w=true)(h2:cc ad (ad[k]?.getD 0) k=false):eN ad w (k+1)=true:=by simp[eN,h0,h,h2]
def qQ (n:Int):Int:=if ak n=true then 0 else 2
theorem wv{n:Int}(h:ak n=true):qQ n=0:=by simp[qQ,h]
theorem nj{n:Int}(h:ak n=false):qQ n=2:=by simp[qQ,h]
theorem nC(n:Int)(w:World):Calls prog 218 #[.int .i64 n] w λe w'=>e=.returned (.int .i64 (qQ n))/\w=w':=by
 by_cases d:n<256
 .have H:Hid (qQ n=2):=hid (nj (by simp[ak];omega));go_enter func218,ntmps218;go_wp2;go_ret;exact⟨by rw[H.out];rfl,rfl⟩
 have h3:256<=n:=by omega
 clear d;by_cases b:2048<n
 .have H:Hid (qQ n=2):=hid (nj (by simp[ak];omega));go_enter func218,ntmps218;go_wp2;go_ret;exact⟨by rw[H.out];rfl,rfl⟩
 have h4:n<=2048:=by omega
 clear b;by_cases a:n%8=0
 .have H:Hid (qQ n=0):=hid (wv (by simp[ak];omega));have c:(n%8 != 0)=false:=by rw[kqr];exact a
  clear a;go_enter func218,ntmps218;go_wp2;go_ret;exact⟨by rw[H.out];rfl,rfl⟩
 have H:Hid (qQ n=2):=hid (nj (by simp[ak];omega));have c:(n%8 != 0)=true:=by rw[kqv];exact a
 clear a;go_enter func218,ntmps218;go_wp2;go_ret;exact⟨by rw[H.out];rfl,rfl⟩
theorem EQ(x n:Int)(w:World):Calls prog 219 #[.int .i64 x,.int .i64 n] w λe w'=>e=.returned (.bool (Ef x n))/\w=w':=by
 have H:Hid (∀b:Bool,(b=true↔16<=x/\x<n/\(x<24\/96<=x))->b=Ef x n):=hid λb h=>by rw[kzl,rA];exact h
 go_enter func219,ntmps219;go_wp2_with fail
 all_goals
  go_ret;exact⟨jJ (H.out _ (by simp;omega)),rfl⟩
def E4 (B:Nat) (w:World) (g:Nat) (ad:List Int) (k:Nat):Prop:=
 (k=0/\Bx w g 278 #[.map none])\/(∃b,B<=b/\Bx w g 278 #[.map (some b)]/\w.ownsMap prog 3 (plainElem prog 4) b k (fD ad k))
def Jl (B:Nat) (g:Nat) (ad:List Int) (k:Nat) (r:Bool) (w:World) (e:Ending) (w':World):Prop:=e=.returned (.bool r)/\E4 B w' g ad (k+1)/\Below B w w'/\(∀h t cs,Bx w h t cs->h≠g->Bx w' h t cs)
theorem add_c(B g:Nat)(ad:List Int)(k:Nat)(x:Int)(w:World)(hx:ad[k]?.getD 0=x)(hxb : -9223372036854775808<=x/\x<=9223372036854775807)(hk:k<=1000000)(hBg:B<=g)(hs:E4 B w g ad k):
 Calls prog 220 #[.pointer (some ⟨g,0,none⟩),.int .i64 x] w (Jl B g ad k (!cc ad x k) w):=by
 have q:(Lit.int .i64 x).wf=true:=by simp[Lit.wf,IntKind.min,IntKind.max,IntKind.signed,IntKind.bits];omega
 have v:=hid (keyOf_int_mk (P:=prog) underlying3 q);have HX:=hid hx;have I:=hid (show fD ad (k+1)=(fD ad k).put (.int .i64 x) (.lit (.bool true)) by simp only[fD,hx]);have n:=hid (nR ad x k);obtain⟨r,J⟩:=xq (cc ad x k);rw[J] at n |-;clear hx q J hxb;rcases hs with⟨C,f⟩|⟨b,o,f,d⟩
 .subst C;obtain⟨K,c1,L⟩:=f.c1;have u:=λW:World=>run_eql_map_nil (P:=prog) W 161 3 4 none underlying161;have e:=hid f;clear f;have hmm:=@run_makeMap prog;have m:((w.setCell ⟨g,0,none⟩ (.map (some w.heap.size))).alloc (Obj.map #[] 0)).ownsMap prog 3 (plainElem prog 4) w.heap.size 0 (fD ad 0):=by have:=World.ownsMap_made (H:=Unit) (w.setCell ⟨g,0,none⟩ (.map (some w.heap.size))) prog 3 (plainElem prog 4);rwa [kz6] at this
  have E:=je m oQ underlying161 underlying4 (nf _) v.out n.out;have i:=hid m;have s:=hid (((e.out.set_ 0 (.map (some w.heap.size)))).alloc (Obj.map #[] 0));have z:=hid ((((kqk B w).setCell (p:=⟨g,0,none⟩) hBg (.map (some w.heap.size)))).alloc (by simp;omega) (Obj.map #[] 0));clear m;go_enter func220,ntmps220;go_wp2_with (at_mapUpdate;refine wpList_mapUpdate_own _ rfl _ _ _ 161 rfl 3 4 oQ underlying161 _ w.heap.size 0 _ rfl i.out (by simp[maxLen]) _ _ _ rfl rfl v.out (.lit (.bool true)) [] (plainElem_bool underlying4 true) ?_;intro F c a);go_ret;have l:=z.out.grown a (by simp;omega) (λj D=>by cases D;omega);refine⟨rfl,.inr ⟨w.heap.size,by omega,s.out.grown a (gR s.out i.out),by rw[I.out];exact c⟩,l,λh t cs y A=>?_⟩;have G:=(y.far (p:=⟨g,0,none⟩) A (.map (some w.heap.size))).alloc (Obj.map #[] 0);exact G.grown a (gR G i.out)
 obtain⟨K,c1,L⟩:=f.c1;have E:=je d oQ underlying161 underlying4 (nf w) v.out n.out;have u:=λW:World=>run_eql_map_nil (P:=prog) W 161 3 4 (some b) underlying161;have e:=hid f;clear f;go_enter func220,ntmps220;go_wp2_with (at_mapUpdate;refine wpList_mapUpdate_own _ rfl _ _ _ 161 rfl 3 4 oQ underlying161 _ b k _ rfl d (by unfold maxLen;omega) _ _ _ rfl rfl v.out (.lit (.bool true)) [] (plainElem_bool underlying4 true) ?_;intro F c a);go_ret;have l:Below B w F:=(kqk B w).grown a (by omega) (λj D=>by cases D;exact o);exact⟨rfl,.inr ⟨b,o,e.out.grown a (gR e.out d),by rw[I.out];exact c⟩,l,λh t cs y _=>y.grown a (gR y d)⟩
theorem FN{l:List En}(ho:∀e∈l,e.ok)(hk:k<l.length): -9223372036854775808<=(av l)[k]?.getD 0/\(av l)[k]?.getD 0<=9223372036854775807:=by rw[d7 l k hk];have:=ho l[k] (kqn hk);exact⟨this.1,this.2.1⟩
theorem mq(A:Option Addr)(l:List En)(c n:Nat)(ws:Int)(w:World)(hn:l.length=n)(hm:n<=9223372036854775807)(hr:RdE w w.heap.size A l)(ho:∀e∈l,e.ok):
 Calls prog 170 #[.slice A n c,.int .i64 ws] w λe w'=>e=.returned (.int .i64 (dL (av l) ws))/\Below w.heap.size w w':=by
 subst hn;have W:=hid hr;have V:=hid ho;clear hr ho;cases y:ak ws
 .have B:=hid (zd (ad:=av l) y);have I:=hid (nj y);clear y;go_enter func170,ntmps170;go_wp2_with fail;refine (nC ws w).mono ?_;rintro e H ⟨rfl,rfl⟩;rw[I.out];go_wp2;go_ret;exact⟨by rw[B.out];rfl,kqk _ _⟩
 have J:=hid y;have I:=hid (wv y);clear y;by_cases C:32<l.length
 .have B:=hid (t6 (ad:=av l) J.out (by rw[aU];exact C));go_enter func170,ntmps170;go_wp2_with fail;refine (nC ws w).mono ?_;rintro e H ⟨rfl,rfl⟩;rw[I.out];go_wp2;go_ret;exact⟨by rw[B.out];rfl,kqk _ _⟩
 have s:l.length<=32:=by omega
 have hgt:decide ((32:Int)<(l.length:Int))=false:=by rw[kqh];omega
 clear C;go_enter func170,ntmps170;go_wp2_with fail;refine (nC ws w).mono ?_;rintro e H ⟨rfl,rfl⟩;rw[I.out];go_wp2_with fail;go_loopw [19] (λi wr=>∃k:Nat,k<=l.length/\i=.int .i64 k/\eN (av l) ws k=true/\E4 w.heap.size wr w.heap.size (av l) k/\Below w.heap.size w wr) (λi _=>l.length-(intOf i).toNat)
 case atStart=>exact⟨0,kqz _,rfl,rfl,.inl ⟨rfl,Bx.new w _ _⟩,(kqk _ _).alloc (kqa _) _⟩
 obtain⟨k,hk,rfl,j,q,u⟩:=hrel;have S:=u.size;by_cases d:k<l.length
 .obtain ⟨b,E,rfl,T,K,t⟩:=W.out.at_ d;replace K:=(u.cell (p:=⟨b,E+k*2,none⟩) T).trans K;replace t:=(u.cell (p:=⟨b,E+k*2+1,none⟩) T).trans t;have r:=FN V.out d;rw[<-d7 l k d] at K;obtain⟨x,L⟩:=xq ((av l)[k]?.getD 0);rw[L] at K r;have P:=hid j;have F:=hid L;have N:=hid r;have ik1:(0:Int)<=(k:Int):=by omega
  have ik2:(k:Int)<(l.length:Int):=by omega
  have o:E4 w.heap.size (wr.alloc (.cells #[.int .i64 x,.int .u64 (l[k].v:Int)] 89)) w.heap.size (av l) k:=by
   rcases q with⟨t,O⟩|⟨m,t,O,U⟩
   .exact .inl ⟨t,O.alloc _⟩
   exact .inr ⟨m,t,O.alloc _,U.alloc _⟩
  have M:=hid o;clear j L q o r;go_wp2_with fail;refine (EQ x ws _).mono ?_;rintro e H ⟨rfl,rfl⟩;cases h:Ef x ws
  .have a:=hid (pW J.out (by rw[aU];exact s) (k:=k+1) (zZ (by rw[F.out];exact h)) (by rw[aU];exact d));clear h;go_wp2;go_ret;exact⟨by rw[a.out];rfl,u.alloc S _⟩
  have Q:=hid h;clear h;go_wp2_with fail;refine (add_c w.heap.size w.heap.size (av l) k x _ F.out N.out (by omega) (kqa _) M.out).mono ?_;rintro e H ⟨rfl,f,R,-⟩;have z:=(u.alloc S (.cells #[.int .i64 x,.int .u64 (l[k].v:Int)] 89)).trans R;cases g:cc (av l) x k
  .have D:=hid (qb P.out (by rw[F.out];exact Q.out) (by rw[F.out];exact g));clear g;have G:=hid f;clear f;go_wp2;go_roundw
   case rel=>exact⟨k+1,by omega,by go_num,D.out,G.out,z⟩
   case measure=>simp[intOf];omega
  have a:=hid (pW J.out (by rw[aU];exact s) (k:=k+1) (sH (by rw[F.out];exact g)) (by rw[aU];exact d));clear g f;go_wp2;go_ret;exact⟨by rw[a.out];rfl,z⟩
 obtain rfl:k=l.length:=by omega
 have B:=hid (oy J.out (by rw[aU];exact s) (by rw[aU];exact j));clear q j;go_wp2;go_ret;exact⟨by rw[B.out];rfl,u⟩
def bM:List En->List Nat
 | []=>[]
 | e::l=>e.a.toNat::e.v::bM l
def eE (l:List En) (ws:Int):List Nat:=if dL (av l) ws=0 then bM l else []
theorem fS(l:List En):(bM l).length=2*l.length:=by
 induction l with
 | nil=>rfl
 | cons e l ih=>simp only[bM,kq2,ih];omega
theorem ym(l:List En)(e:En):bM (l++[e])=bM l++[e.a.toNat,e.v]:=by
 induction l with
 | nil=>rfl
 | cons x l ih=>simp[bM,ih]
def Cc (H:Nat) (l:List En) (ws:Int) (e:Ending) (w':World):Prop:=∃A c,e=.returned (.tuple #[.slice A (eE l ws).length c,.int .i64 (dL (av l) ws)])/\w'.ownsRow H 53 1 (.slice A (eE l ws).length c) (eE l ws).length ((eE l ws).flatMap ae)
theorem tu{M:Nat}{l:List En}(h0:dL (av l) ws=0)(hn:n=2*l.length)(h:w'.ownsRow M 53 1 v n ((bM l).flatMap ae))(hH:H<=M):Cc H l ws (.returned (.tuple #[v,.int .i64 0])) w':=by
 have b:eE l ws=bM l:=by simp[eE,h0]
 have a:(eE l ws).length=n:=by rw[b,fS,hn]
 obtain⟨A,c,rfl⟩:=aE h;refine⟨A,c,by rw[a,h0],?_⟩;rw[a,b];exact am h hH
theorem Ep{l:List En}{r:Int}(hr:dL (av l) ws=r)(h0:r≠0):Cc H l ws (.returned (.tuple #[.slice none 0 0,.int .i64 r])) w':=by
 subst hr;have:eE l ws=[]:=by simp[eE,h0]
 exact⟨none,0,by rw[this];rfl,by rw[this];exact kq6 _ _ _ _⟩
theorem DH(w:World)(cs:List Value)(t:TypeId)(h:w.heap.size=H):∀j u,cs[j]? = some u->(w.alloc (.cells cs.toArray t)).cell? ((⟨H,0,none⟩:Addr).add j)=some u:=by subst h;exact cI w cs t
theorem pR(A:Option Addr)(l:List En)(c n:Nat)(ws:Int)(w:World)(hn:l.length=n)(hm:n<=9223372036854775807)(q:RdE w w.heap.size A l)(ho:∀e∈l,e.ok):
 Calls prog 124 #[.slice A n c,.int .i64 ws] w λe w'=>Cc w.heap.size l ws e w'/\Below w.heap.size w w':=by
 subst hn;have V:=hid q;have U:=hid ho;clear q ho;obtain⟨i0,R,f,z,C⟩:=kzr lq;have HI:=hid R;have H:=hid f;have N:=hid z;have J:=hid C;clear R f z C;go_enter func124,ntmps124;go_wp2_with fail;refine (mq A l c l.length ws w rfl hm V.out U.out).mono ?_;rintro e F ⟨rfl,m⟩;have f:=m.size;by_cases g:dL (av l) ws=0
 .obtain ⟨W,L,o⟩:=uV g;rw[aU] at L;have Z:=hid g;have HP:=hid o;have hw2:=((ab ws).1 W).2.1;rw[g];clear g o W;go_wp2_with fail;go_loopw [7,18] (λv i wr=>∃k:Nat,k<=l.length/\i=.int .i64 k/\wr.ownsRow F.heap.size 53 1 v (2*k) ((bM (l.take k)).flatMap ae)/\Below F.heap.size F wr) (λ_ i _=>l.length-(intOf i).toNat)
  case atStart=>exact⟨0,kqz _,rfl,kq6 _ _ _ _,kqk _ _⟩
  obtain⟨k,hk,rfl,d,G⟩:=hrel;have Y:=G.size;by_cases j:k<l.length
  .obtain ⟨b,B,rfl,S,g,y⟩:=V.out.at_ j;have t:=m.trans (G.mono f);replace g:=(t.cell (p:=⟨b,B+k*2,none⟩) S).trans g;replace y:=(t.cell (p:=⟨b,B+k*2+1,none⟩) S).trans y;have h:=(rA _ _).1 (B7 HP.out (show k<(av l).length by rw[aU];exact j)).1;rw[d7 l k j] at h;have u:=(U.out l[k] (kqn j)).2.2;have T:Hid (∀x v,l[k].a=x->l[k].v=v->0<=x->(bM (l.take (k+1))).flatMap ae=(bM (l.take k)).flatMap ae++[.int .u64 x,.int .u64 (v:Int)]):=hid λx v y h2 X=>by
    rw[kqp j,ym,kxc,y,h2];simp only[kzy,List.flatMap_nil,ae,kzt,kzn,kz2];rw[kj0 X]
   obtain⟨x,I⟩:=xq (l[k].a);obtain⟨v,P⟩:=xq (l[k].v);have D:=T.out x v I P;rw[I] at g h;rw[P] at y u;obtain⟨m1,m2,-⟩:=h;have O:0<=x:=by omega
   have hx1:x<=2048:=by omega
   have K:=hid (D O);have hv0:(0:Int)<=(v:Int):=by omega
   have ik1:(0:Int)<=(k:Int):=by omega
   have ik2:(k:Int)<(l.length:Int):=by omega
   clear T D I P m1 m2 u;go_wp2_with (at_builtin;refine kzh _ rfl _ _ 22 rfl F.heap.size 53 i0 _ 1 8 underlying22 HI.out H.out N.out J.out rfl (by decide) _ _ _ rfl ((d.alloc _).alloc _) ⟨_,0,none⟩ 2 2 [.int .u64 x,.int .u64 (v:Int)] rfl rfl (DH _ _ _ (kqm _ _)) (by simp[Value.oneCell']) (by unfold maxLen;omega) (by omega) (by simp;omega) ?_;intro v1 w1 s M _);have Q:=aF (G.alloc Y (.cells #[.int .i64 x,.int .u64 (v:Int)] 89)) (by simp;omega) (d.alloc _) M;go_roundw
   case rel=>exact⟨k+1,by omega,by go_num,by rw[K.out,show 2*(k+1)=2*k+2 by omega];exact s,Q⟩
   case measure=>simp[intOf];omega
  obtain rfl:k=l.length:=by omega
  rw[kzf] at d;go_wp2;go_ret2;exact⟨tu Z.out rfl d f,m.trans (G.mono f)⟩
 have HX:=hid g;obtain⟨r,q⟩:=xq (dL (av l) ws);have hn1:(r==0)=false:=by rw[<-q,kqi];exact g
 have hn2:(r != 0)=true:=by rw[<-q,kqv];exact g
 have E:=hid q;rw[q];clear g q;go_wp2;go_ret2;exact⟨Ep E.out (by rw[<-E.out];exact HX.out),m⟩
def mu (cs:Array Value) (ad:List Int) (n:Nat):Prop:=cs.size=256/\∀i,i<256->cs[i]? = some (.bool (aI ad (8*(i:Int)) n))
theorem Ai{cs:Array Value}{x:Nat}(h:mu cs ad k)(hx:ad[k]?.getD 0=(x:Int)):mu (cs.setIfInBounds (x/8) (.bool true)) ad (k+1):=by
 refine⟨by rw[kkx];exact h.1,λi a=>?_⟩;rw[kja];simp only[aI,hx];by_cases e:x/8=i
 .subst e;rw[if_pos rfl,if_pos (by rw[h.1];exact a)];have:((x:Int)/8==8*((x/8:Nat):Int)/8)=true:=by rw[kqx];omega
  rw[this,kvb]
 have:((x:Int)/8==8*(i:Int)/8)=false:=by rw[kqi];omega
 rw[if_neg e,h.2 i a,this,kkm]
def kI:Array Value:=Array.replicate 256 (.bool false)
theorem wm(w:World):(zeroValue 156).run prog w=.ok (.agg kI) w:=by kernel_rfl
theorem lines0(ad:List Int):mu kI ad 0:=⟨by simp[kI],λi a=>by simp[kI,a,aI]⟩
def LnRes (ad:List Int) (n:Nat) (e:Ending):Prop:=∃cs,e=.returned (.agg cs)/\mu cs ad n
theorem Ju(A:Option Addr)(l:List En)(c n:Nat)(w:World)(hn:l.length=n)(hm:n<=9223372036854775807)(hr:RdE w w.heap.size A l)(ho:∀k,k<l.length->0<=(av l)[k]?.getD 0/\(av l)[k]?.getD 0<2048):
 Calls prog 181 #[.slice A n c] w λe w'=>LnRes (av l) n e/\Below w.heap.size w w':=by
 subst hn;have G:=hid hr;have F:=hid ho;clear hr ho;have hzv:=wm;go_enter func181,ntmps181;go_wp2_with fail;go_loopw [7] (λi wr=>∃(k:Nat) (cs:Array Value),k<=l.length/\i=.int .i64 k/\mu cs (av l) k/\Bx wr w.heap.size 156 cs/\Below w.heap.size w wr) (λi _=>l.length-(intOf i).toNat)
 case atStart=>exact⟨0,_,kqz _,rfl,lines0 _,Bx.new w _ _,(kqk _ _).alloc (kqa _) _⟩
 obtain⟨k,cs,hk,rfl,a,d,r⟩:=hrel;have hz:=r.size;by_cases o:k<l.length
 .obtain ⟨b,s,rfl,C,t,D⟩:=G.out.at_ o;replace t:=(r.cell (p:=⟨b,s+k*2,none⟩) C).trans t;replace D:=(r.cell (p:=⟨b,s+k*2+1,none⟩) C).trans D;obtain⟨E,H⟩:=F.out k o;rw[<-d7 l k o] at t;obtain⟨x,u⟩:=kq1 E;rw[u] at t E H;have I:=hid u;have y:x/8<256:=by omega
  have g:=d.cell (x/8);rw[a.2 _ y] at g;have hfr:=d.frozen (x/8);have hlt2:=d.lt;have j:=hid a;have f:=hid d;have ik1:(0:Int)<=(k:Int):=by omega
  have ik2:(k:Int)<(l.length:Int):=by omega
  clear u a d;go_wp2_with fail;refine⟨⟨k+1,_,by omega,by go_num,Ai j.out I.out,(f.out.set_ (x/8) (.bool true)).alloc _,(r.setCell (p:=⟨w.heap.size,x/8,none⟩) (kqa _) _).alloc (by simp;omega) _⟩,?_⟩;simp[intOf];omega
 obtain rfl:k=l.length:=by omega
 have q:(prog.info? 156).map (·.size)=some cs.size:=by rw[a.1];kernel_rfl
 have B:cs.all (·.oneCell')=true:=by rw[kk8];intro i q;have h:=a.2 i (by have:=a.1;omega);rw[kjl q] at h;injection h with h;rw[h];rfl
 have m:=hid (qr d);have z:=kj d;have j:=hid a;have f:=hid d;clear a d;go_wp2_with (first
  | (refine kxj rfl _ _ rfl w.heap.size (by rfl) 156 cs (0,0) _ f.out underlying156 (by rfl) q ?_)
  | (refine kju rfl _ _ _ rfl w.heap.size 0 cs (by rfl) (by rfl) z q B ?_;rw[m.out]))
 refine kqq (v:=.agg cs) (results_cell_row rfl _ _ w.heap.size _ cs (0,0) _ (by rfl) f.out underlying156 (by rfl) q) rfl ⟨⟨cs,rfl,j.out⟩,r⟩
open Go.RowKit
structure Dw where
 a:Int
 v:Nat
 f:Bool
 deriving DecidableEq,Inhabited
variable {l:List Dw}
def Dw.cells (x:Dw):List Value:=[.int .i64 x.a,.int .u64 (x.v:Int),.bool x.f]
theorem Dw.len(x:Dw):x.cells.length=3:=rfl
theorem Dw.one:∀x:Dw,∀u∈x.cells,u.oneCell'=true:=λx u a=>by unfold Dw.cells at a;simp only[kqw,kzk,or_false] at a;rcases a with rfl|rfl|rfl<;>rfl
structure Dv where
 im:List Nat
 dw:List Dw
 left:Int
 down:Bool
 deriving DecidableEq,Inhabited
variable {d:Dv}
def iM (n:Nat):List Dw->Int->Bool
 | [],_=>true
 | e::l,b=>decide (b<e.a)&&(decide (e.a<(n:Int))&&iM n l e.a)
def ff (d:Dv):Bool:=ak (d.im.length:Int)&&(decide (-1<=d.left)&&(decide (d.left<=1000000)&&((!d.down||d.left==0)&&iM d.im.length d.dw (-1))))
def fC (d:Dv):Int:=if ff d=true then 0 else 8
def kV (x:List Nat) (l:List Dw):List Nat:=l.foldl (λx e=>x.set e.a.toNat e.v) x
def dvV (d:Dv):List Nat:=kV d.im d.dw
def dec (l:Int):Int:=if 0<l then l-1 else l
def stQ:List Dw->Int->Nat->List Dw
 | [],a,v=>[⟨a,v,false⟩]
 | e::l,a,v=>if e.a<a then e::stQ l a v else if e.a=a then ⟨a,v,false⟩::l else ⟨a,v,false⟩::e::l
def flB (a:Int) (e:Dw):Dw:=if e.a/8=a/8 then { e with f:=true } else e
def flQ (a:Int) (l:List Dw):List Dw:=l.map (flB a)
def fnI (x:List Nat) (l:List Dw):List Nat:=kV x (l.filter (·.f))
def fnQ (l:List Dw):List Dw:=l.filter λe=>!e.f
def dvD (d:Dv):Dv:={ d with down:=true }
def dvS (d:Dv) (a:Int) (v:Nat):Dv:=if d.left=0 then dvD d else { d with dw:=stQ d.dw a v,left:=dec d.left }
def dvF (d:Dv) (a:Int):Dv:=if d.left=0 then dvD d else { d with dw:=flQ a d.dw,left:=dec d.left }
def dvN (d:Dv):Dv:=if d.left=0 then dvD d else { d with im:=fnI d.im d.dw,dw:=fnQ d.dw,left:=dec d.left }
def o8 (d:Dv) (l:List En):Dv:=l.foldl (λd e=>dvS d e.a e.v) d
def lK (ad:List Int) (d:Dv):Nat->Dv
 | 0=>d
 | k+1=>if aI ad (8*(k:Int)) ad.length=true then dvF (lK ad d k) (8*(k:Int)) else lK ad d k
def rpP (d:Dv) (l:List En):Dv:=dvN (lK (av l) (o8 d l) 256)
def lsE (a:Int):List Nat->List En
 | []=>[]
 | v::l=>⟨a,v⟩::lsE (a+1) l
def cmW (l:List En):Nat:=(a8 14695981039346656037 (bM l)%288230376151711744)*64+l.length
def atM (d:Dv) (l:List En):Dv:=if l=[] then d else rpP (rpP (rpP (rpP d (lsE 32 (bM l))) [⟨24,cmW l⟩]) l) [⟨24,0⟩]
def atErr (d:Dv) (l:List En):Int:=if fC d=0 then (if dL (av l) (d.im.length:Int)=0 then (if wd (dvV d) 24=0 then 0 else 8) else dL (av l) (d.im.length:Int)) else fC d
theorem nr:∀(l:List Dw) (x:List Nat),(kV x l).length=x.length:=by
 intro l
 induction l with
 | nil=>intro x;rfl
 | cons e l ih=>intro x;show (kV (x.set e.a.toNat e.v) l).length=_;rw[ih,kq3]
theorem bP(d:Dv):ff d=true↔ak (d.im.length:Int)=true /\ -1<=d.left/\d.left<=1000000/\(d.down=true->d.left=0)/\iM d.im.length d.dw (-1)=true:=by
 unfold ff;simp only[kqu,kzd,kx1,kx7,kqx];constructor
 .rintro ⟨f,c,b,a,e⟩;refine⟨f,c,b,λh=>?_,e⟩;rcases a with a|a
  .rw[a] at h;cases h
  exact a
 rintro ⟨f,c,b,a,e⟩;refine⟨f,c,b,?_,e⟩;cases g:d.down with
 | false=>exact .inl rfl
 | true=>exact .inr (a g)
theorem pN(h:fC d=0):ff d=true:=by
 unfold fC at h;split at h
 .assumption
 cases h
theorem kq(h:ff d=true):fC d=0:=by unfold fC;rw[if_pos h]
theorem Dx{b':Int}(h:iM n l b=true)(hb:b'<=b):iM n l b'=true:=by
 cases l with
 | nil=>rfl
 | cons e l =>simp only[iM,kqu,kzd] at h |-;exact⟨by omega,h.2⟩
theorem gw :∀ {l:List Dw} {b:Int},iM n l b=true->∀e∈l,b<e.a/\e.a<(n:Int):=by
 intro l
 induction l with
 | nil=>intro b _ e c;exact absurd c (by simp)
 | cons x l ih =>
  intro b h e c;simp only[iM,kqu,kzd] at h;rcases kqw.1 c with rfl|c
  .exact ⟨h.1,h.2.1⟩
  have:=ih h.2.2 e c;omega
theorem stQ_to{v:Nat}(ha:a<(n:Int)):∀ {l:List Dw} {b:Int},iM n l b=true->b<a->iM n (stQ l a v) b=true:=by
 intro l
 induction l with
 | nil=>intro b _ c;simp[stQ,iM];omega
 | cons e l ih =>
  intro b h c;simp only[iM,kqu,kzd] at h;unfold stQ;by_cases f:e.a<a
  .rw[if_pos f];simp only[iM,kqu,kzd];exact⟨h.1,h.2.1,ih h.2.2 f⟩
  rw[if_neg f];by_cases d:e.a=a
  .rw[if_pos d];simp only[iM,kqu,kzd];exact⟨c,ha,by rw[<-d];exact h.2.2⟩
  rw[if_neg d];simp only[iM,kqu,kzd];exact⟨c,ha,by omega,h.2.1,h.2.2⟩
theorem flQ_to :∀ {l:List Dw} {b:Int},iM n (flQ a l) b=iM n l b:=by
 intro l
 induction l with
 | nil=>intro b;rfl
 | cons e l ih =>
  intro b;have c:(flB a e).a=e.a:=by unfold flB;split<;>rfl
  show (decide (b<(flB a e).a)&&(decide ((flB a e).a<(n:Int))&&iM n (flQ a l) (flB a e).a))=_;rw[c,ih];rfl
theorem AF{p:Dw->Bool}:∀ {l:List Dw} {b:Int},iM n l b=true->iM n (l.filter p) b=true:=by
 intro l
 induction l with
 | nil=>intro b _;rfl
 | cons e l ih =>
  intro b h;simp only[iM,kqu,kzd] at h;rw[kjt];split
  .simp only[iM,kqu,kzd];exact⟨h.1,h.2.1,ih h.2.2⟩
  exact Dx (ih h.2.2) (by omega)
theorem AY{l:Int}(h1 : -1<=l)(h2:l<=1000000): -1<=dec l/\dec l<=1000000:=by unfold dec;split<;>omega
theorem BJ(h:ff d=true)(h0:d.left=0):ff (dvD d)=true:=by rw[bP] at h |-;exact⟨h.1,h.2.1,h.2.2.1,λ_=>h0,h.2.2.2.2⟩
theorem vF{v:Nat}(h:ff d=true)(h0:0<=a)(ha:a<(d.im.length:Int)):ff (dvS d a v)=true:=by
 unfold dvS;by_cases b:d.left=0
 .rw[if_pos b];exact BJ h b
 rw[if_neg b];rw[bP] at h |-;obtain⟨e,c⟩:=AY h.2.1 h.2.2.1;exact⟨h.1,e,c,λf=>absurd (h.2.2.2.1 f) b,stQ_to ha h.2.2.2.2 (by omega)⟩
theorem Hj(h:ff d=true):ff (dvF d a)=true:=by
 unfold dvF;by_cases b:d.left=0
 .rw[if_pos b];exact BJ h b
 rw[if_neg b];rw[bP] at h |-;obtain⟨e,c⟩:=AY h.2.1 h.2.2.1;exact⟨h.1,e,c,λf=>absurd (h.2.2.2.1 f) b,by dsimp only;rw[flQ_to];exact h.2.2.2.2⟩
theorem Ho(h:ff d=true):ff (dvN d)=true:=by
 unfold dvN;by_cases b:d.left=0
 .rw[if_pos b];exact BJ h b
 rw[if_neg b];rw[bP] at h |-;obtain⟨e,c⟩:=AY h.2.1 h.2.2.1;have a:(fnI d.im d.dw).length=d.im.length:=nr _ _;refine⟨by dsimp only;rw[a];exact h.1,e,c,λf=>absurd (h.2.2.2.1 f) b,?_⟩;dsimp only;rw[a];exact AF h.2.2.2.2
theorem sb(d:Dv)(a:Int)(v:Nat):(dvS d a v).im=d.im:=by unfold dvS dvD;split<;>rfl
theorem GQ(d:Dv)(a:Int):(dvF d a).im=d.im:=by unfold dvF dvD;split<;>rfl
theorem CT(d:Dv):(dvN d).im.length=d.im.length:=by
 unfold dvN dvD;split
 .rfl
 exact nr _ _
theorem uL:∀(l:List En) (d:Dv),(o8 d l).im=d.im:=by
 intro l
 induction l with
 | nil=>intro d;rfl
 | cons e l ih=>intro d;show (o8 (dvS d e.a e.v) l).im=_;rw[ih,sb]
theorem uN(ad:List Int)(d:Dv):∀k,(lK ad d k).im=d.im:=by
 intro k
 induction k with
 | zero=>rfl
 | succ k ih =>
  unfold lK;split
  .rw[GQ,ih]
  exact ih
theorem mz(d:Dv)(l:List En):(rpP d l).im.length=d.im.length:=by unfold rpP;rw[CT,uN,uL]
theorem mf:∀(l:List En) {d:Dv},ff d=true->(∀e∈l,0<=e.a/\e.a<(d.im.length:Int))->ff (o8 d l)=true:=by
 intro l
 induction l with
 | nil=>intro d h _;exact h
 | cons e l ih =>intro d h c;have b:=c e (by simp);exact ih (d:=dvS d e.a e.v) (vF h b.1 b.2) λx f=>by rw[sb];exact c x (by simp[f])
theorem kG(h:ff d=true):∀k,ff (lK ad d k)=true:=by
 intro k
 induction k with
 | zero=>exact h
 | succ k ih =>
  unfold lK;split
  .exact Hj ih
  exact ih
theorem qc{l:List En}(h:ff d=true)(he:∀e∈l,0<=e.a/\e.a<(d.im.length:Int)):ff (rpP d l)=true:=Ho (kG (mf l h he) _)
def RdQ (w:World) (B:Nat) (A:Option Addr) (l:List Dw):Prop:=Rd w B A (l.flatMap Dw.cells)
theorem RdQ.at_{w:World}{B:Nat}{A:Option Addr}(h:RdQ w B A l)(hk:k<l.length):
 ∃b c,A=some ⟨b,c,none⟩/\b<B/\w.cell? ⟨b,c+k*3,none⟩=some (.int .i64 l[k].a)/\w.cell? ⟨b,c+k*3+1,none⟩=some (.int .u64 (l[k].v:Int))/\w.cell? ⟨b,c+k*3+2,none⟩=some (.bool l[k].f):=by obtain⟨b,c,e,g,d⟩:=Rd.at_flat Dw.len h (by omega) hk;exact⟨b,c,e,g,d 0 (by omega),d 1 (by omega),d 2 (by omega)⟩
theorem Du(hk:k<l.length):iM n (l.drop k) b=(decide (b<l[k].a)&&(decide (l[k].a<(n:Int))&&iM n (l.drop (k+1)) l[k].a)):=by rw[kx3 hk];rfl
def EN (n:Nat) (lf:Int) (dn:Bool):Bool:=ak (n:Int)&&(decide (-1<=lf)&&(decide (lf<=1000000)&&(!dn||lf==0)))
theorem Gl(im:List Nat)(dw:List Dw)(lf:Int)(dn:Bool):ff ⟨im,dw,lf,dn⟩=(EN im.length lf dn&&iM im.length dw (-1)):=by unfold ff EN;simp only[Bool.and_assoc]
theorem lj(A DA:Option Addr)(im:List Nat)(dw:List Dw)(lf:Int)(dn:Bool)(n c m dc:Nat)(w:World)(hn:im.length=n)(hm:dw.length=m)(hn2:n<=9223372036854775807)(hm2:m<=4611686018427387904)(hr:RdQ w w.heap.size DA dw):
 Calls prog 123 #[.agg #[.slice A n c,.slice DA m dc,.int .i64 lf,.bool dn]] w λe w'=>e=.returned (.int .i64 (fC ⟨im,dw,lf,dn⟩))/\Below w.heap.size w w':=by
 have q:=hid (λW=>aB A n c W hn2);have u:Hid (fC ⟨im,dw,lf,dn⟩=if EN n lf dn&&iM n dw (-1) then 0 else 8):=hid (by unfold fC;rw[Gl,hn]);have a:EN n lf dn=(ak (n:Int)&&(decide (-1<=lf)&&(decide (lf<=1000000)&&(!dn||lf==0)))):=rfl;have H:=hid (Bx.new w 79 #[.slice A n c,.slice DA m dc,.int .i64 lf,.bool dn]);have f:=hid ((kqk w.heap.size w).alloc (kqa _) (.cells #[.slice A n c,.slice DA m dc,.int .i64 lf,.bool dn] 79));have R:=hid hr;obtain⟨s,l⟩:=xq (w.alloc (.cells #[.slice A n c,.slice DA m dc,.int .i64 lf,.bool dn] 79));rw[l] at H f;obtain⟨M,q1,q2,q3,-,-,-,-,O⟩:=H.out.c4;clear hr hn hn2;cases B:ak (n:Int)
 .have d:Hid (fC ⟨im,dw,lf,dn⟩=8):=hid (by rw[u.out,a,B];rfl);have j:=hid (bL B);clear B a;go_enter func123,ntmps123;go_wp2_with fail;refine (q.out s).mono ?_;rintro e D ⟨rfl,rfl⟩;rw[j.out];clear l;go_wp2;go_ret;exact⟨by rw[d.out];rfl,f.out⟩
 have j:=hid (aV B);rw[B,kzq] at a;clear B;by_cases h1:lf < -1
 .have d:Hid (fC ⟨im,dw,lf,dn⟩=8):=hid (by rw[u.out,a,decide_eq_false (by omega)];rfl);clear a;go_enter func123,ntmps123;go_wp2_with fail;refine (q.out s).mono ?_;rintro e D ⟨rfl,rfl⟩;rw[j.out];clear l;go_wp2;go_ret;exact⟨by rw[d.out];rfl,f.out⟩
 rw[decide_eq_true (show -1<=lf by omega),kzq] at a;by_cases h2:1000000<lf
 .have d:Hid (fC ⟨im,dw,lf,dn⟩=8):=hid (by rw[u.out,a,decide_eq_false (by omega)];rfl);clear a;go_enter func123,ntmps123;go_wp2_with fail;refine (q.out s).mono ?_;rintro e D ⟨rfl,rfl⟩;rw[j.out];clear l;go_wp2;go_ret;exact⟨by rw[d.out];rfl,f.out⟩
 rw[decide_eq_true (show lf<=1000000 by omega),kzq] at a;have r:(dn=true/\lf≠0)\/(!dn||lf==0)=true:=by
  cases dn with
  | false=>exact .inr rfl
  | true =>
   by_cases h:lf=0
   .exact .inr (by rw[h];rfl)
   exact .inl ⟨rfl,h⟩
 rcases r with⟨rfl,r⟩|r
 .have J:(lf==0)=false:=by rw[kqi];exact r
  have e4:(lf != 0)=true:=by rw[kqv];exact r
  have d:Hid (fC ⟨im,dw,lf,true⟩=8):=hid (by rw[u.out,a,J];rfl);clear a r J;go_enter func123,ntmps123;go_wp2_with fail;refine (q.out s).mono ?_;rintro e D ⟨rfl,rfl⟩;rw[j.out];clear l;go_wp2;go_ret;exact⟨by rw[d.out];rfl,f.out⟩
 rw[r] at a;rw[a,kzq] at u;have S:dn=false\/(dn=true/\lf=0):=by
  cases dn with
  | false=>exact .inl rfl
  | true=>exact .inr ⟨rfl,by simpa using r⟩
 have F:=hid (R.out.below f.out);subst hm;clear a r;rcases S with rfl|⟨rfl,rfl⟩
 all_goals
  go_enter func123,ntmps123;go_wp2_with fail;refine (q.out s).mono ?_;rintro e D ⟨rfl,rfl⟩;rw[j.out];clear l;go_wp2_with fail;go_loopw [33,4] (λi Q wr=>∃(k:Nat) (b:Int),k<=dw.length/\i=.int .i64 k/\Q=.int .i64 b/\Hid (iM n dw (-1)=iM n (dw.drop k) b)/\Below s.heap.size s wr) (λi _ _=>dw.length-(intOf i).toNat)
  case atStart=>exact⟨0,-1,kqz _,rfl,rfl,hid rfl,kqk _ _⟩
  obtain⟨k,b,U,rfl,rfl,E,z⟩:=hrel;by_cases t:k<dw.length
  .obtain ⟨g,o,rfl,hgb,L,I,K⟩:=RdQ.at_ (show RdQ wr w.heap.size DA dw from Rd.keep F.out λp hp=>z.cell (by have:=f.out.size;omega)) t;have C:=hid (Du (n:=n) (b:=b) t);obtain⟨x,G⟩:=xq (dw[k]);rw[G] at L I K C;obtain⟨v,P,T⟩:=x;dsimp only at L I K C;have r0:=(z.cell (p:=⟨w.heap.size,0,none⟩) O).trans M;have hki:(k:Int)<(dw.length:Int):=by omega
   have hk0:(0:Int)<=(k:Int):=by omega
   have N:=z.size;have hgw:w.heap.size<wr.heap.size:=by omega
   have y:=hid (z.alloc N (.cells #[.int .i64 v,.int .u64 (P:Int),.bool T] 92));clear G z;by_cases c1:v<=b
   .have d:Hid (iM n dw (-1)=false):=hid (by rw[E.out,C.out,decide_eq_false (by omega)];rfl);go_wp2;go_ret;exact⟨by rw[u.out,d.out];rfl,f.out.trans (y.out.mono f.out.size)⟩
   by_cases c2:(n:Int)<=v
   .have d:Hid (iM n dw (-1)=false):=hid (by rw[E.out,C.out,decide_eq_false (show ¬ v<(n:Int) by omega)];simp);go_wp2;go_ret;exact⟨by rw[u.out,d.out];rfl,f.out.trans (y.out.mono f.out.size)⟩
   have d:Hid (iM n dw (-1)=iM n (dw.drop (k+1)) v):=hid (by rw[E.out,C.out,decide_eq_true (show b<v by omega),decide_eq_true (show v<(n:Int) by omega)];simp);go_wp2;go_roundw
   case rel=>exact⟨k+1,v,by omega,by go_num,rfl,d,y.out⟩
   case measure=>simp[intOf];omega
  have d:Hid (iM n dw (-1)=true):=hid (by rw[E.out,kk7 (by omega)];rfl);have hend:decide ((k:Int)<(dw.length:Int))=false:=by rw[kqh];omega
  have hendn:decide (k<dw.length)=false:=by rw[kqh];exact t
  clear t U;go_wp2;go_ret;exact⟨by rw[u.out,d.out];rfl,f.out.trans (z.mono f.out.size)⟩
theorem kB:(prog.info? 79).map (·.size)=some 4:=by kernel_rfl
theorem CI:(prog.info? 92).map (λi=>(i.zero,i.size,i.bytes))=some (some (.agg #[.int .i64 0,.int .u64 0,.bool false]),3,24):=by kernel_rfl
theorem wZ(h:fn.results=#[.cell p 79])(tmps:Array Value){cs:Array Value}(hb:Bx W g t cs)(hs:cs.size=4)(hp:tmps.getD p undef=.pointer (some ⟨g,0,none⟩)):
 (results fn tmps).run prog W=.ok (.agg cs) W:=by
 have a:tmps[p]?.getD undef=.pointer (some ⟨g,0,none⟩):=by simpa using hp
 have c:(prog.info? 79).map (·.size)=some cs.size:=by rw[hs];exact kB
 have b:=run_loadVar_row W g t 79 cs (0,0) _ hb underlying79 rfl c;simp[results,h,a,asAddr,b]
theorem bi{q:Tmp}(h:fn.results=#[.cell p 79,.tmp q])(tmps:Array Value){cs:Array Value}{u:Value}(hb:Bx W g t cs)(hs:cs.size=4)(hp:tmps.getD p undef=.pointer (some ⟨g,0,none⟩))(hq:tmps.getD q undef=u):
 (results fn tmps).run prog W=.ok (.tuple #[.agg cs,u]) W:=by
 have b:tmps[p]?.getD undef=.pointer (some ⟨g,0,none⟩):=by simpa using hp
 have a:tmps[q]?.getD undef=u:=by simpa using hq
 have d:(prog.info? 79).map (·.size)=some cs.size:=by rw[hs];exact kB
 have c:=run_loadVar_row W g t 79 cs (0,0) _ hb underlying79 rfl d;simp[results,h,b,a,asAddr,c]
section
variable {ops:Array Oper} {rest:List Oper} {a:Act} {w:World} {Q:Exit->Act->World->Prop} {dst:Option Tmp} {type:TypeId} {pos:String} {after:Array Edge} {x y:Operand} {g:Nat} {old new:Array Value}
theorem stD(hb:Bx w g 79 old)(h:∀b,Hid (Bx b g 79 new)->Hid (iE w b g)->wpList prog ops Q rest (a.put dst undef) b)(hx:a.eval x=.pointer (some ⟨g,0,none⟩):=by rfl)(hy:a.eval y=.agg new:=by rfl)(ho:new.size=old.size:=by rfl)(hs:new.size=4:=by rfl)(h1:new.all (·.oneCell')=true:=by simp[Value.oneCell']):
 wpList prog ops Q ({ dst := dst,op := .store 79 x y,type := type,pos := pos,after := after,guard := none }::rest) a w:=
 ao rfl _ _ _ rfl g _ old new hx hy hb ho (by rw[hs];exact kB) h1 λb d c=>h b (hid d) (hid c)
theorem ldD(hb:Bx w g 79 old)(h:wpList prog ops Q rest (a.put dst (.agg old)) w)(hx:a.eval x=.pointer (some ⟨g,0,none⟩):=by rfl)(hs:old.size=4:=by rfl):
 wpList prog ops Q ({ dst := dst,op := .load 79 x,type := type,pos := pos,after := after,guard := none }::rest) a w:=
 kxj rfl _ _ rfl g hx 79 old (0,0) _ hb underlying79 (by rfl) (by rw[hs];exact kB) h
end
theorem nU(w:World)(A DA:Option Addr)(lf:Int)(dn:Bool)(n c m dc:Nat):∃W0,(w.alloc (.cells #[.slice A n c,.slice DA m dc,.int .i64 lf,.bool dn] 79)).alloc (.cells #[.slice none 0 0,.slice none 0 0,.int .i64 0,.bool false] 79)=W0/\Bx W0 w.heap.size 79 #[.slice A n c,.slice DA m dc,.int .i64 lf,.bool dn]/\Bx W0 (w.heap.size+1) 79 #[.slice none 0 0,.slice none 0 0,.int .i64 0,.bool false]/\Below w.heap.size w W0/\W0.heap.size=w.heap.size+1+1:=by have a:=Bx.new (w.alloc (.cells #[.slice A n c,.slice DA m dc,.int .i64 lf,.bool dn] 79)) 79 #[.slice none 0 0,.slice none 0 0,.int .i64 0,.bool false];rw[kqm] at a;exact⟨_,rfl,(Bx.new w 79 #[.slice A n c,.slice DA m dc,.int .i64 lf,.bool dn]).alloc (.cells #[.slice none 0 0,.slice none 0 0,.int .i64 0,.bool false] 79),a,((kqk w.heap.size w).alloc (kqa _) (.cells #[.slice A n c,.slice DA m dc,.int .i64 lf,.bool dn] 79)).alloc (by simp) (.cells #[.slice none 0 0,.slice none 0 0,.int .i64 0,.bool false] 79),by simp⟩
def OwnQ (w:World) (l:List Dw) (e:Ending) (w':World):Prop:=∃A c,e=.returned (.slice A l.length c)/\w'.ownsRow w.heap.size 92 3 (.slice A l.length c) l.length (l.flatMap Dw.cells)/\Below w.heap.size w w'
theorem vD(A:Option Addr)(l:List Dw)(c n:Nat)(w:World)(hn:l.length=n)(hm:n<=1000000)(hr:RdQ w w.heap.size A l):
 Calls prog 125 #[.slice A n c] w λe w'=>OwnQ w l e w':=by
 have B:=hid hr;have r:=hid hn;have q:=hid (cm Dw.cells 3 Dw.len l);have f:=λ(W:World)=>Lib.run_eql_slice_nil (P:=prog) (w:=W) 77 92 A n c 0 0 underlying77;obtain⟨D,v,h,i,j⟩:=kzr CI;have z:=hid v;have o:=hid h;have t:=hid i;have p:=hid j;clear v h i j;cases A with
 | none =>
  have u:l=[]:=by
   cases l with
   | nil=>rfl
   | cons x l =>obtain⟨b,off,e,-⟩:=RdQ.at_ hr (show 0<(x::l).length by simp);cases e
  have y:=hid u;simp only[Option.isNone_none] at f;clear hr hn u;go_enter func125,ntmps125;go_wp2;go_ret;exact⟨none,0,by rw[y.out];rfl,by rw[y.out];exact kq6 _ _ _ _,kqk _ _⟩
 | some a =>simp only[Option.isNone_some] at f;clear hr hn;go_enter func125,ntmps125;go_wp2_with (at_builtin;refine aX _ (by rfl) _ _ 77 rfl w.heap.size 92 D _ 3 24 underlying77 z.out o.out t.out p.out rfl (by decide) (.slice (some ⟨w.heap.size,0,none⟩) 0 0) 0 [] (by rfl) (iT w _ _ _ (kqa _)) w.heap.size (some a) n _ (l.flatMap Dw.cells) (by rfl) (by rw[q.out,r.out]) (Rd.alloc B.out (kqa _) _) (dy Dw.one _) (by unfold maxLen;omega) (by omega) (by simp) ?_;intro v1 wa d k;have g:=bu ((kqk w.heap.size w).alloc (kqa _) _) (by simp) (iT w w.heap.size 92 3 (kqa _)) k;simp only[kxd,kz2] at d;obtain⟨E,C,rfl⟩:=aE d;have m:=hid d;have s:=hid g;clear d g k);go_ret;exact⟨E,C,by rw[r.out];rfl,by rw[r.out];exact m.out,s.out⟩
def lX (w':World) (H:Nat) (d:Dv) (v:Value):Prop:=∃A c DA dc,v=.agg #[.slice A d.im.length c,.slice DA d.dw.length dc,.int .i64 d.left,.bool d.down]/\d.im.length<=c/\w'.ownsRow H 53 1 (.slice A d.im.length c) d.im.length (d.im.flatMap ae)/\w'.ownsRow H 92 3 (.slice DA d.dw.length dc) d.dw.length (d.dw.flatMap Dw.cells)
theorem FS(A DA:Option Addr)(im:List Nat)(dw:List Dw)(lf:Int)(dn:Bool)(n c m dc:Nat)(w:World)(hn:im.length=n)(hm:dw.length=m)(h0:0<n)(hn2:n<=1000000)(hm2:m<=1000000)(hr:RdW w w.heap.size A im)(hq:RdQ w w.heap.size DA dw):
 Calls prog 265 #[.agg #[.slice A n c,.slice DA m dc,.int .i64 lf,.bool dn]] w λe w'=>(∃v,e=.returned v/\lX w' w.heap.size ⟨im,dw,lf,dn⟩ v)/\Below w.heap.size w w':=by
 have D:=hid (λW (h:RdW W W.heap.size A im)=>mC A im c n W.heap.size W hn h0 hn2 h (kqa _));have B:=hid (λW (h:RdQ W W.heap.size DA dw)=>vD DA dw dc m W hm hm2 h);unfold CM at D;unfold OwnQ at B;rw[hn] at D;rw[hm] at B;have HR:=hid hr;have HQ:=hid hq;have a:=(Bx.new w 79 #[.slice A n c,.slice DA m dc,.int .i64 lf,.bool dn]).alloc (.cells #[.slice none 0 0,.slice none 0 0,.int .i64 0,.bool false] 79);have d:=Bx.new (w.alloc (.cells #[.slice A n c,.slice DA m dc,.int .i64 lf,.bool dn] 79)) 79 #[.slice none 0 0,.slice none 0 0,.int .i64 0,.bool false];rw[kqm] at d;have z:=((kqk w.heap.size w).alloc (kqa _) (.cells #[.slice A n c,.slice DA m dc,.int .i64 lf,.bool dn] 79)).alloc (by simp) (.cells #[.slice none 0 0,.slice none 0 0,.int .i64 0,.bool false] 79);have E:((w.alloc (.cells #[.slice A n c,.slice DA m dc,.int .i64 lf,.bool dn] 79)).alloc (.cells #[.slice none 0 0,.slice none 0 0,.int .i64 0,.bool false] 79)).heap.size=w.heap.size+1+1:=by simp
 obtain⟨I,P⟩:=xq ((w.alloc (.cells #[.slice A n c,.slice DA m dc,.int .i64 lf,.bool dn] 79)).alloc (.cells #[.slice none 0 0,.slice none 0 0,.int .i64 0,.bool false] 79));rw[P] at a d z E;have X0:=hid a;have X1:=hid d;have G:=hid z;obtain⟨q0,q1,q2,q3,-,-,-,-,Y⟩:=a.c4;have y:w.heap.size<=I.heap.size:=by omega
 have H:w.heap.size+1<I.heap.size:=by omega
 have Kx:(prog.info? 79).map (·.size)=some (#[.slice A n c,.slice DA m dc,.int .i64 lf,.bool dn]:Array Value).size:=kB;have C:=hid hn;have N:=hid hm;clear hr hq a d z E hn hm;go_enter func265,ntmps265;go_wp2_with fail;clear P;refine (D.out I (HR.out.up G.out y)).mono ?_;rintro e R ⟨g,i,rfl,o,q⟩;have Q:=hid o;have a:=X0.out.up q Y;have d:=X1.out.up q H;have Eq:=hid (G.out.trans (q.mono y));have hz1:=q.size;obtain⟨q0,q1,q2,q3,f0,f1,-,-,hg1⟩:=a.c4;have V:=hid a;have XX1:=hid d;clear o q a d;go_wp2_with fail;have u:w.heap.size+1≠w.heap.size:=by omega
 have Kw:∀b,some b≠(Value.slice (some ⟨g,0,none⟩) n i).ownBlock->True:=λ_ _=>trivial;have b2:=Eq.out.setCell (p:=⟨w.heap.size,0,none⟩) (kqa _) (.slice (some ⟨g,0,none⟩) n i);have a:=V.out.set_ 0 (.slice (some ⟨g,0,none⟩) n i);have d:=XX1.out.far (p:=⟨w.heap.size,0,none⟩) u (.slice (some ⟨g,0,none⟩) n i);have S:=aw Q.out (bQ Q.out Y).symm (p:=⟨w.heap.size,0,none⟩) (.slice (some ⟨g,0,none⟩) n i);have Ky:(R.setCell ⟨w.heap.size,0,none⟩ (.slice (some ⟨g,0,none⟩) n i)).heap.size=R.heap.size:=kz6 _ _ _;obtain⟨F,O⟩:∃F,R.setCell ⟨w.heap.size,0,none⟩ (.slice (some ⟨g,0,none⟩) n i)=F:=⟨_,rfl⟩;rw[O] at b2 a d S Ky |-;have Y0:=hid a;have Y1:=hid d;have O2:=hid S;have s:=hid b2;have M:w.heap.size<F.heap.size:=by omega
 have x:w.heap.size+1<F.heap.size:=by omega
 clear O a d S b2 Kw;refine (B.out F (HQ.out.up s.out s.out.size)).mono ?_;rintro e w3 ⟨l,r,rfl,j,f⟩;have Kz:=hid (s.out.trans (f.mono s.out.size));have O3:=hid (aa O2.out f (kqa _));have Q3:=hid j;have a:=Y0.out.up f M;have d:=Y1.out.up f x;have hz3:=f.size;obtain⟨q0,q1,q2,q3,f0,f1,-,-,hg3⟩:=(show Bx w3 w.heap.size 79 #[.slice (some ⟨g,0,none⟩) n i,.slice DA m dc,.int .i64 lf,.bool dn] from a).c4;have Z0:=hid (show Bx (w3.setCell ⟨w.heap.size,1,none⟩ (.slice l m r)) w.heap.size 79 #[.slice (some ⟨g,0,none⟩) n i,.slice l m r,.int .i64 lf,.bool dn] from a.set_ 1 (.slice l m r));have Z1:=hid (d.far (p:=⟨w.heap.size,1,none⟩) u (.slice l m r));have Z:=hid (Kz.out.setCell (p:=⟨w.heap.size,1,none⟩) (kqa _) (.slice l m r));have U:=hid (aw O3.out (bQ O3.out Y).symm (p:=⟨w.heap.size,1,none⟩) (.slice l m r));have Q4:=hid (aw Q3.out (bQ Q3.out M).symm (p:=⟨w.heap.size,1,none⟩) (.slice l m r));clear j f a d;go_wp2_with (first
  | ((with_reducible refine aQ 79 (.tmp 1) ?_);refine kxj rfl _ _ rfl w.heap.size (by rfl) 79 _ (0,0) _ Z0.out underlying79 (by rfl) kB ?_)
  | ((with_reducible refine ar 79 (.tmp 2) _ ?_);refine ao rfl _ _ _ rfl (w.heap.size+1) 79 #[.slice none 0 0,.slice none 0 0,.int .i64 0,.bool false] #[.slice (some ⟨g,0,none⟩) n i,.slice l m r,.int .i64 lf,.bool dn] (by rfl) (by rfl) Z1.out rfl Kx (by simp[Value.oneCell']) ?_;intro w9 J L;have X:=hid J;have t:=hid L;clear J L))
 have K:(w3.setCell ⟨w.heap.size,1,none⟩ (.slice l m r)).grownBy w9 (some (w.heap.size+1)):=by have T:=t.out.2.2 (w.heap.size+1) (kqa _);exact⟨T.os,T.tape,T.output,by rw[t.out.1];exact kqa _,λk hk u=>t.out.2.1 k (λe=>u (by rw[e]))⟩
 refine kqq (v:=.agg #[.slice (some ⟨g,0,none⟩) n i,.slice l m r,.int .i64 lf,.bool dn]) (wZ results265 _ X.out rfl rfl) rfl ⟨⟨_,rfl,some ⟨g,0,none⟩,i,l,r,by rw[C.out,N.out],?_,?_,?_⟩,t.out.below Z.out (by omega)⟩
 .dsimp only;rw[C.out];exact cK U.out
 .dsimp only;rw[C.out];exact am (aN U.out K (.inr (bQ U.out H).symm)) y
 dsimp only;rw[N.out];exact am (aN Q4.out K (.inr (bQ Q4.out x).symm)) s.out.size
theorem iE.grown{w:World}(h:iE w w' g):w.grownBy w' (some g):=by have a:=h.2.2 g (kqa _);exact⟨a.os,a.tape,a.output,by rw[h.1];exact kqa _,λk _ b=>h.2.1 k (λe=>b (by rw[e]))⟩
theorem aq{w:World}{sz:Nat}{e:TypeId}{xs:List Value}(h:w.ownsRow H e sz v n xs)(ha:iE w w' g)(hg:g<H):w'.ownsRow H e sz v n xs:=aN h ha.grown (.inr (bQ h hg).symm)
def dvB (d:Dv):Dv:=if d.left=0 then dvD d else { d with left:=dec d.left }
theorem oM(A DA:Option Addr)(im:List Nat)(dw:List Dw)(lf:Int)(dn:Bool)(n c m dc:Nat)(w:World)(hn:im.length=n)(hm:dw.length=m)(h0:0<n)(hn2:n<=1000000)(hm2:m<=1000000)(hlf : -1<=lf/\lf<=1000000)(hr:RdW w w.heap.size A im)(hq:RdQ w w.heap.size DA dw):
 Calls prog 226 #[.agg #[.slice A n c,.slice DA m dc,.int .i64 lf,.bool dn]] w λe w'=>(∃v,e=.returned (.tuple #[v,.bool (decide (lf≠0))])/\lX w' w.heap.size (dvB ⟨im,dw,lf,dn⟩) v)/\Below w.heap.size w w':=by
 have D:=hid (λW (h:RdW W W.heap.size A im) (h2:RdQ W W.heap.size DA dw)=>FS A DA im dw lf dn n c m dc W hn hm h0 hn2 hm2 h h2);unfold lX at D;rw[hn,hm] at D;have HR:=hid hr;have HQ:=hid hq;obtain⟨W0,Eq,E,H,L,Z⟩:=nU w A DA lf dn n c m dc;have X0:=hid E;have X1:=hid H;have G:=hid L;have f:=hid hn;have o:=hid hm;obtain⟨q0,q1,q2,q3,-,-,-,-,j⟩:=E.c4;have d:w.heap.size<=W0.heap.size:=by omega
 have l:w.heap.size+1<W0.heap.size:=by omega
 have r:w.heap.size+1≠w.heap.size:=by omega
 clear hr hq E H L Z hn hm;go_enter func226,ntmps226;go_wp2_with fail;clear Eq;refine (D.out W0 (HR.out.up G.out d) (HQ.out.up G.out d)).mono ?_;rintro e w1 ⟨⟨v,rfl,z,B,i,g,rfl,C,M,R⟩,x⟩;have t:=hid M;have s:=hid R;have E:=hid (X0.out.up x j);have H:=hid (X1.out.up x l);have F:=hid (G.out.trans (x.mono d));clear x M R;by_cases k:lf=0
 .subst k;have Q:Hid (dvB ⟨im,dw,0,dn⟩=⟨im,dw,0,true⟩):=hid (by unfold dvB dvD;rw[if_pos rfl]);go_wp2_with (first
   | (((with_reducible refine ar 79 (.tmp 1) _ ?_);refine stD E.out ?_;intro Y y a);obtain⟨s0,s1,s2,s3,T,N,O,I,V⟩:=y.out.c4;have U:=hid (show Bx (Y.setCell ⟨w.heap.size,3,none⟩ (.bool true)) w.heap.size 79 #[.slice z n B,.slice i m g,.int .i64 0,.bool true] from y.out.set_ 3 (.bool true));have X:=hid ((a.out.bx H.out r).far (p:=⟨w.heap.size,3,none⟩) r (.bool true));have q:=hid ((a.out.below F.out (kqa _)).setCell (p:=⟨w.heap.size,3,none⟩) (kqa _) (.bool true));have S:=hid (aw (aq t.out a.out j) (bQ (aq t.out a.out j) j).symm (p:=⟨w.heap.size,3,none⟩) (.bool true));have K:=hid (aw (aq s.out a.out j) (bQ (aq s.out a.out j) j).symm (p:=⟨w.heap.size,3,none⟩) (.bool true)))
   | ((with_reducible refine aQ 79 (.tmp 1) ?_);refine ldD U.out ?_)
   | ((with_reducible refine ar 79 (.tmp 2) _ ?_);refine stD X.out ?_;intro w9 u b))
  refine kqq (v:=.tuple #[.agg #[.slice z n B,.slice i m g,.int .i64 0,.bool true],.bool false]) (bi results226 _ u.out rfl rfl rfl) rfl ⟨⟨_,by rw[show decide ((0:Int)≠0)=false from rfl],by rw[Q.out];exact⟨z,B,i,g,by rw[f.out,o.out],by rw[f.out];exact C,by rw[f.out];exact am (aq S.out b.out l) d,by rw[o.out];exact am (aq K.out b.out l) d⟩⟩,b.out.below q.out (by omega)⟩
 have e0:(lf==0)=false:=by rw[kqi];exact k
 have ed:decide (lf≠0)=true:=by rw[kqo];exact k
 have P:=hid ed;by_cases J:0<lf
 .have Q:Hid (dvB ⟨im,dw,lf,dn⟩=⟨im,dw,lf-1,dn⟩):=hid (by unfold dvB dec;rw[if_neg k];dsimp only;rw[if_pos J]);have hw1:IntKind.i64.wrap (lf-1)=lf-1:=kqt _ (by omega);clear k ed;go_wp2_with (first
   | (((with_reducible refine ar 79 (.tmp 1) _ ?_);refine stD E.out ?_;intro Y y a);obtain⟨s0,s1,s2,s3,T,N,O,I,V⟩:=y.out.c4;have U:=hid (show Bx (Y.setCell ⟨w.heap.size,2,none⟩ (.int .i64 (lf-1))) w.heap.size 79 #[.slice z n B,.slice i m g,.int .i64 (lf-1),.bool dn] from y.out.set_ 2 (.int .i64 (lf-1)));have X:=hid ((a.out.bx H.out r).far (p:=⟨w.heap.size,2,none⟩) r (.int .i64 (lf-1)));have q:=hid ((a.out.below F.out (kqa _)).setCell (p:=⟨w.heap.size,2,none⟩) (kqa _) (.int .i64 (lf-1)));have S:=hid (aw (aq t.out a.out j) (bQ (aq t.out a.out j) j).symm (p:=⟨w.heap.size,2,none⟩) (.int .i64 (lf-1)));have K:=hid (aw (aq s.out a.out j) (bQ (aq s.out a.out j) j).symm (p:=⟨w.heap.size,2,none⟩) (.int .i64 (lf-1))))
   | ((with_reducible refine aQ 79 (.tmp 1) ?_);refine ldD U.out ?_)
   | ((with_reducible refine ar 79 (.tmp 2) _ ?_);refine stD X.out ?_;intro w9 u b))
  refine kqq (v:=.tuple #[.agg #[.slice z n B,.slice i m g,.int .i64 (lf-1),.bool dn],.bool true]) (bi results226 _ u.out rfl rfl rfl) rfl ⟨⟨_,by rw[P.out],by rw[Q.out];exact⟨z,B,i,g,by rw[f.out,o.out],by rw[f.out];exact C,by rw[f.out];exact am (aq S.out b.out l) d,by rw[o.out];exact am (aq K.out b.out l) d⟩⟩,b.out.below q.out (by omega)⟩
 have Q:Hid (dvB ⟨im,dw,lf,dn⟩=⟨im,dw,lf,dn⟩):=hid (by unfold dvB dec;rw[if_neg k];dsimp only;rw[if_neg J]);clear k ed;go_wp2_with (first
  | (((with_reducible refine ar 79 (.tmp 1) _ ?_);refine stD E.out ?_;intro Y y a);obtain⟨s0,s1,s2,s3,T,N,O,I,V⟩:=y.out.c4;have U:=y;have X:=hid (a.out.bx H.out r);have q:=hid (a.out.below F.out (kqa _));have S:=hid (aq t.out a.out j);have K:=hid (aq s.out a.out j))
  | ((with_reducible refine aQ 79 (.tmp 1) ?_);refine ldD U.out ?_)
  | ((with_reducible refine ar 79 (.tmp 2) _ ?_);refine stD X.out ?_;intro w9 u b))
 refine kqq (v:=.tuple #[.agg #[.slice z n B,.slice i m g,.int .i64 lf,.bool dn],.bool true]) (bi results226 _ u.out rfl rfl rfl) rfl ⟨⟨_,by rw[P.out],by rw[Q.out];exact⟨z,B,i,g,by rw[f.out,o.out],by rw[f.out];exact C,by rw[f.out];exact am (aq S.out b.out l) d,by rw[o.out];exact am (aq K.out b.out l) d⟩⟩,b.out.below q.out (by omega)⟩
def GI (d:Dv) (a:Int):Int:=if fC d=0 then (if 0<=a/\a<(d.im.length:Int) then 0 else 2) else 8
theorem Dl(h:fC d≠0):fC d=8:=by
 unfold fC at h |-;split
 .rename_i h1;rw[if_pos h1] at h;exact absurd rfl h
 rfl
theorem GV(A DA:Option Addr)(im:List Nat)(dw:List Dw)(lf:Int)(dn:Bool)(n c m dc:Nat)(a:Int)(w:World)(hn:im.length=n)(hm:dw.length=m)(hn2:n<=9223372036854775807)(hm2:m<=4611686018427387904)(hr:RdQ w w.heap.size DA dw):
 Calls prog 225 #[.agg #[.slice A n c,.slice DA m dc,.int .i64 lf,.bool dn],.int .i64 a] w λe w'=>e=.returned (.int .i64 (GI ⟨im,dw,lf,dn⟩ a))/\Below w.heap.size w w':=by
 have v:=hid (λW (h:RdQ W W.heap.size DA dw)=>lj A DA im dw lf dn n c m dc W hn hm hn2 hm2 h);have o:Hid (GI ⟨im,dw,lf,dn⟩ a=if fC ⟨im,dw,lf,dn⟩=0 then (if 0<=a/\a<(n:Int) then 0 else 2) else 8):=hid (by unfold GI;rw[<-hn]);have p:=hid (Dl (d:=⟨im,dw,lf,dn⟩));have t:=Bx.new w 79 #[.slice A n c,.slice DA m dc,.int .i64 lf,.bool dn];have j:=(kqk w.heap.size w).alloc (kqa _) (.cells #[.slice A n c,.slice DA m dc,.int .i64 lf,.bool dn] 79);have x:=hid hr;obtain⟨s,l⟩:=xq (w.alloc (.cells #[.slice A n c,.slice DA m dc,.int .i64 lf,.bool dn] 79));rw[l] at t j;have i:=hid j;have C:=hid t;obtain⟨q0,q1,q2,q3,-,-,-,-,z⟩:=t.c4;have g:w.heap.size<=s.heap.size:=by omega
 obtain⟨r,q⟩:∃r,fC ⟨im,dw,lf,dn⟩=r:=⟨_,rfl⟩;rw[q] at v o p;clear hr t j hn hm q;by_cases u:r=0
 .subst u;rw[if_pos rfl] at o;go_enter func225,ntmps225;go_wp2_with fail;clear l;refine (v.out s (x.out.up i.out g)).mono ?_;rintro e B ⟨rfl,b⟩;have y:=C.out.up b z;have f:=hid (i.out.trans (b.mono g));obtain⟨p0,-,-,-,-,-,-,-,-⟩:=y.c4;clear b y;by_cases h1:a<0
  .have k:Hid (GI ⟨im,dw,lf,dn⟩ a=2):=hid (by rw[o.out,if_neg (by omega)]);go_wp2;go_ret;exact⟨by rw[k.out];rfl,f.out⟩
  by_cases h2:(n:Int)<=a
  .have k:Hid (GI ⟨im,dw,lf,dn⟩ a=2):=hid (by rw[o.out,if_neg (by omega)]);go_wp2;go_ret;exact⟨by rw[k.out];rfl,f.out⟩
  have k:Hid (GI ⟨im,dw,lf,dn⟩ a=0):=hid (by rw[o.out,if_pos (by omega)]);go_wp2;go_ret;exact⟨by rw[k.out];rfl,f.out⟩
 have D:=p.out u;have k:Hid (GI ⟨im,dw,lf,dn⟩ a=8):=hid (by rw[o.out,if_neg u]);subst D;clear u;go_enter func225,ntmps225;go_wp2_with fail;clear l;refine (v.out s (x.out.up i.out g)).mono ?_;rintro e B ⟨rfl,b⟩;have f:=hid (i.out.trans (b.mono g));clear b;go_wp2;go_ret;exact⟨by rw[k.out];rfl,f.out⟩
def GH (d:Dv) (H:Nat) (e:Ending) (w':World):Prop:=(fC d=0->∃g c,e=.returned (.tuple #[.slice (some ⟨g,0,none⟩) d.im.length c,.int .i64 0])/\w'.ownsRow H 53 1 (.slice (some ⟨g,0,none⟩) d.im.length c) d.im.length ((dvV d).flatMap ae))/\(fC d≠0->e=.returned (.tuple #[.slice none 0 0,.int .i64 (fC d)]))
theorem DZ{x:List Nat}(hk:k<l.length):kV x (l.take (k+1))=(kV x (l.take k)).set l[k].a.toNat l[k].v:=by unfold kV;rw[kqp hk,List.foldl_append];rfl
theorem rB(A DA:Option Addr)(im:List Nat)(dw:List Dw)(lf:Int)(dn:Bool)(n c m dc:Nat)(w:World)(hn:im.length=n)(hm:dw.length=m)(hn2:n<=9223372036854775807)(hm2:m<=4611686018427387904)(hi:RdW w w.heap.size A im)(hr:RdQ w w.heap.size DA dw):
 Calls prog 81 #[.agg #[.slice A n c,.slice DA m dc,.int .i64 lf,.bool dn]] w λe w'=>GH ⟨im,dw,lf,dn⟩ w.heap.size e w'/\Below w.heap.size w w':=by
 have T:=hid (λW (h:RdQ W W.heap.size DA dw)=>lj A DA im dw lf dn n c m dc W hn hm hn2 hm2 h);have M:=Bx.new w 79 #[.slice A n c,.slice DA m dc,.int .i64 lf,.bool dn];have v:=(kqk w.heap.size w).alloc (kqa _) (.cells #[.slice A n c,.slice DA m dc,.int .i64 lf,.bool dn] 79);have HR:=hid hr;have Eq:=hid hi;obtain⟨N,I⟩:=xq (w.alloc (.cells #[.slice A n c,.slice DA m dc,.int .i64 lf,.bool dn] 79));rw[I] at M v;have y:=hid v;have X0:=hid M;obtain⟨q0,q1,q2,q3,-,-,-,-,hg⟩:=M.c4;have s:w.heap.size<=N.heap.size:=by omega
 have O:=hid hn;by_cases z:fC ⟨im,dw,lf,dn⟩=0
 .have H:=(bP _).1 (pN z);have hs:=(ab _).1 H.1;dsimp only at hs;have G:=H.2.2.2.2;dsimp only at G;have L:=hid (gw G);rw[hn] at L;have F:=hid (λW (h:RdW W W.heap.size A im)=>mC A im c n W.heap.size W hn (by omega) (by omega) h (kqa _));unfold CM at F;rw[hn] at F;have D:=hid z;have Ky:=hid (λk hk=>DZ (x:=im) (l:=dw) (k:=k) hk);have Kx:Hid (dvV ⟨im,dw,lf,dn⟩=kV im (dw.take dw.length)):=hid (by rw[kzf];rfl);have hn3:n<=2048:=by omega
  rw[z] at T;subst hm;clear hr hi M v hn z H hs G;go_enter func81,ntmps81;go_wp2_with fail;clear I;refine (T.out N (HR.out.up y.out s)).mono ?_;rintro e J ⟨rfl,f⟩;have x1:=X0.out.up f hg;have X1:=hid x1;have d:=hid (y.out.trans (f.mono s));obtain⟨V,R,-,-,-,-,-,-,Kw⟩:=x1.c4;clear f x1;go_wp2_with fail;refine (F.out J (Eq.out.up d.out d.out.size)).mono ?_;rintro e w2 ⟨g,S,rfl,q,t⟩;have C:=hid q;have La:=hid (d.out.trans (t.mono d.out.size));have x2:=X1.out.up t Kw;obtain⟨-,r1,-,-,-,-,-,-,hg2⟩:=x2.c4;have hz2:=t.size;clear q t x2 V R;go_wp2_with fail;go_loopw [19] (λi wr=>∃k:Nat,k<=dw.length/\i=.int .i64 k/\Hid (wr.ownsRow J.heap.size 53 1 (.slice (some ⟨g,0,none⟩) n S) n ((kV im (dw.take k)).flatMap ae))/\Hid (Below w.heap.size w wr)) (λi _=>dw.length-(intOf i).toNat)
  case atStart=>exact⟨0,kqz _,rfl,C,La⟩
  obtain⟨k,hk,rfl,B,U⟩:=hrel;have hz:=U.out.size;by_cases j:k<dw.length
  .obtain ⟨b,o,rfl,hbb,V,R,p2⟩:=RdQ.at_ (HR.out.below U.out) j;have Q:=hid (Ky.out k j);have X:=hid (L.out _ (kqn j));obtain⟨x,hx⟩:=xq (dw[k]);rw[hx] at V R p2 Q X;obtain⟨xa,K,xf⟩:=x;dsimp only at V R p2 Q X;obtain⟨a,rfl⟩:=kq1 (show 0<=xa by have:=X.out.1;omega);rw[kqj] at Q;have ha:(a:Int)<(n:Int):=X.out.2;have ha0:(0:Int)<=(a:Int):=by omega
   have han:a<n:=by omega
   have hki:(k:Int)<(dw.length:Int):=by omega
   have hk0:(0:Int)<=(k:Int):=by omega
   obtain⟨Y,hY⟩:=xq (kV im (dw.take k));rw[hY] at B Q;have hw1g:J.heap.size<=g:=ft B.out;have HN:=hid (show ((wr.setCell ⟨g,a,none⟩ (.int .u64 (K:Int))).alloc (.cells #[.int .i64 (a:Int),.int .u64 (K:Int),.bool xf] 92)).ownsRow J.heap.size 53 1 (.slice (some ⟨g,0,none⟩) n S) n ((Y.set a K).flatMap ae) by
    rw[gC];exact ((B.out.stored a (.int .u64 (K:Int))).1).alloc _)
   have Kz:=hid ((U.out.setCell (p:=⟨g,a,none⟩) (by dsimp only;have:=d.out.size;omega) (.int .u64 (K:Int))).alloc (by rw[kz6];exact hz) (.cells #[.int .i64 (a:Int),.int .u64 (K:Int),.bool xf] 92));have hgw:g<wr.heap.size:=by have:=(B.out.lt g rfl).2;exact this
   obtain⟨u0,hu0⟩:∃u,wr.cell? ⟨g,a,none⟩=some u:=by have hc:=B.out.cellAt a (by omega);have hl:=B.out.1;rw[kql (by rw[hl];omega)] at hc;exact⟨_,hc⟩
   have hf0:=B.out.frozenAt a;clear hx hY;go_wp2;go_roundw
   case rel=>exact⟨k+1,by omega,by go_num,by rw[Q.out];exact HN,Kz⟩
   case measure=>simp[intOf];omega
  have P:k=dw.length:=by omega
  have C:Hid (wr.ownsRow J.heap.size 53 1 (.slice (some ⟨g,0,none⟩) n S) n ((dvV ⟨im,dw,lf,dn⟩).flatMap ae)):=hid (by rw[Kx.out,<-P];exact B.out);have hend:decide ((k:Int)<(dw.length:Int))=false:=by rw[kqh];omega
  have hendn:decide (k<dw.length)=false:=by rw[kqh];exact j
  clear j hk P;go_wp2;go_ret2;exact⟨⟨λ_=>⟨g,S,by rw[O.out];rfl,by rw[O.out];exact am C.out d.out.size⟩,λh=>absurd D.out h⟩,U.out⟩
 have D:=hid z;obtain⟨r,E⟩:∃r,fC ⟨im,dw,lf,dn⟩=r:=⟨_,rfl⟩;rw[E] at T z;have Z:=hid E;have e1:(r != 0)=true:=by rw[kqv];exact z
 clear hr hi M v hn hm z E;go_enter func81,ntmps81;go_wp2_with fail;clear I;refine (T.out N (HR.out.up y.out s)).mono ?_;rintro e J ⟨rfl,f⟩;have d:=hid (y.out.trans (f.mono s));clear f;go_wp2;go_ret2;exact⟨⟨λh=>absurd h D.out,λ_=>by rw[Z.out];rfl⟩,d.out⟩
theorem D3(h:ff d=true)(h0:0<=a)(h1:a<(d.im.length:Int)):GI d a=0:=by unfold GI;rw[if_pos (kq h),if_pos ⟨h0,h1⟩]
theorem p9(d:Dv):(dvB d).im=d.im/\(dvB d).dw=d.dw:=by unfold dvB dvD;split<;>exact⟨rfl,rfl⟩
theorem qx(h:d.left=0):dvB d=dvD d:=by unfold dvB;rw[if_pos h]
theorem FL(hk:k<l.length)(R:List Dw)(hR:R=flQ a (l.take k)++l.drop k):R[k]? = some l[k]/\(flB a l[k]=l[k]->flQ a (l.take (k+1))++l.drop (k+1)=R)/\flQ a (l.take (k+1))++l.drop (k+1)=R.set k (flB a l[k])/\R.length=l.length:=by
 have b:(flQ a (l.take k)).length=k:=by unfold flQ;rw[kzg,kq4];omega
 have c:l.drop k=l[k]::l.drop (k+1):=kx3 hk;have d:flQ a (l.take (k+1))=flQ a (l.take k)++[flB a l[k]]:=by unfold flQ;rw[kqp hk,kxu];rfl
 subst hR;refine⟨?_,λh=>?_,?_,?_⟩
 .rw[kxl (by omega),b,kvr,c];rfl
 .rw[d,h,c,kxo];rfl
 .rw[d,c,kvc _ _ (by omega),b,kvr,kxo];rfl
 rw[kqs,b,kzp];omega
theorem DU(A DA:Option Addr)(im:List Nat)(dw:List Dw)(lf:Int)(dn:Bool)(n c m dc a:Nat)(w:World)(hn:im.length=n)(hm:dw.length=m)(hok:ff ⟨im,dw,lf,dn⟩=true)(ha:a<n)(hm2:m<=1000000)(hi:RdW w w.heap.size A im)(hr:RdQ w w.heap.size DA dw):
 Calls prog 182 #[.agg #[.slice A n c,.slice DA m dc,.int .i64 lf,.bool dn],.int .i64 (a:Int)] w λe w'=>(∃v,e=.returned (.tuple #[v,.int .i64 0])/\lX w' w.heap.size (dvF ⟨im,dw,lf,dn⟩ (a:Int)) v)/\Below w.heap.size w w':=by
 have K:=(bP _).1 hok;have hs:=(ab _).1 K.1;dsimp only at hs;have Le : -1<=lf/\lf<=1000000:=⟨K.2.1,K.2.2.1⟩;have Z:=K.2.2.2.2;dsimp only at Z;have Ky:=hid (gw Z);rw[hn] at Ky;have Lf:=hid (λW (h:RdQ W W.heap.size DA dw)=>GV A DA im dw lf dn n c m dc (a:Int) W hn hm (by omega) (by omega) h);rw[D3 hok (by omega) (by dsimp only;omega)] at Lf;have E:=hid (λW (h:RdW W W.heap.size A im) (I:RdQ W W.heap.size DA dw)=>oM A DA im dw lf dn n c m dc W hn hm (by omega) (by omega) (by omega) Le h I);unfold lX at E;rw[(p9 _).1,(p9 _).2] at E;dsimp only at E;rw[hn,hm] at E;have HR:=hid hi;have HQ:=hid hr;obtain⟨W0,Lz,O,x1,Lb,Lq⟩:=nU w A DA lf dn n c m dc;have X0:=hid O;have X1:=hid x1;have Lc:=hid Lb;have z:=hid hn;have Y:=hid hm;obtain⟨q0,q1,q2,q3,-,-,-,-,hg⟩:=O.c4;have La:w.heap.size<=W0.heap.size:=by omega
 have Lt:w.heap.size+1<W0.heap.size:=by omega
 have Lo:w.heap.size+1≠w.heap.size:=by omega
 have hn3:n<=2048:=by omega
 clear hi hr O x1 Lb Lq hn hm K hs Z hok;go_enter func182,ntmps182;go_wp2_with fail;clear Lz;refine (Lf.out W0 (HQ.out.up Lc.out La)).mono ?_;rintro e M ⟨rfl,G⟩;have O:=X0.out.up G hg;have j:=hid (Lc.out.trans (G.mono La));have hz1:=G.size;obtain⟨p0,p1,p2,p3,-,-,-,-,H⟩:=O.c4;have Y0:=hid O;have Y1:=hid (X1.out.up G Lt);have q:w.heap.size+1<M.heap.size:=by omega
 clear O G q0 q1 q2 q3;go_wp2_with fail;refine (E.out M (HR.out.up j.out j.out.size) (HQ.out.up j.out j.out.size)).mono ?_;rintro e w2 ⟨⟨v,rfl,A1,S,t,r,rfl,Kx,Ln,Lj⟩,C⟩;have T:=hid Ln;have Kw:=hid Lj;have Z0:=hid (Y0.out.up C H);have Z1:=hid (Y1.out.up C q);have Eq:=hid (j.out.trans (C.mono j.out.size));have Lu:=C.size;clear C Ln Lj p0 p1 p2 p3;by_cases F:lf=0
 .subst F;have HV:Hid (dvF ⟨im,dw,0,dn⟩ (a:Int)=⟨im,dw,0,true⟩):=hid (by unfold dvF dvD;rw[if_pos rfl]);rw[qx rfl,show decide ((0:Int)≠0)=false from rfl];unfold dvD;dsimp only;go_wp2_with (first
   | ((with_reducible refine ar 79 (.tmp 2) _ ?_);refine stD Z0.out ?_;intro w3 U0 f)
   | ((with_reducible refine aQ 79 (.tmp 2) ?_);refine ldD U0.out ?_)
   | ((with_reducible refine ar 79 (.tmp 4) _ ?_);refine stD (f.out.bx Z1.out Lo) ?_;intro w9 X u))
  refine kqq (v:=.tuple #[.agg #[.slice A1 n S,.slice t m r,.int .i64 0,.bool true],.int .i64 0]) (bi results182 _ X.out rfl rfl rfl) rfl ⟨⟨_,rfl,by
   rw[HV.out];exact⟨A1,S,t,r,by rw[z.out,Y.out],by rw[z.out];exact Kx,by rw[z.out];exact am (aq (aq T.out f.out H) u.out q) j.out.size,by rw[Y.out];exact am (aq (aq Kw.out f.out H) u.out q) j.out.size⟩⟩,u.out.below (f.out.below Eq.out (kqa _)) (by omega)⟩
 have ed:decide (lf≠0)=true:=by rw[kqo];exact F
 have HV:Hid (dvF ⟨im,dw,lf,dn⟩ (a:Int)=⟨im,flQ (a:Int) dw,dec lf,dn⟩):=hid (by unfold dvF;rw[if_neg F]);have Lm:dvB ⟨im,dw,lf,dn⟩=⟨im,dw,dec lf,dn⟩:=by unfold dvB;rw[if_neg F]
 rw[ed,Lm];dsimp only;obtain⟨l2,Lg⟩:=xq (dec lf);rw[Lg] at HV |-;subst Y;have Ls:=hid (λk (K:k<dw.length) R hR=>FL (a:=(a:Int)) (l:=dw) (k:=k) K R hR);have Lv:Hid (flQ (a:Int) dw=flQ (a:Int) (dw.take dw.length)++dw.drop dw.length):=hid (by rw[kzf,kkf,kzt]);have Kz:Hid ((flQ (a:Int) dw).length=dw.length):=hid (by unfold flQ;rw[kzg]);clear Lg Lm ed F Le;go_wp2_with (first
  | (((with_reducible refine ar 79 (.tmp 2) _ ?_);refine stD Z0.out ?_;intro w3 U0 f);obtain⟨s0,s1,s2,s3,sf0,sf1,sf2,sf3,slt⟩:=U0.out.c4))
 have hw3:w.heap.size<w3.heap.size:=U0.out.lt;have U1:=hid (f.out.bx Z1.out Lo);have Lr:=hid (aq T.out f.out H);have Ma:=hid (aq Kw.out f.out H);have Ly:=hid (f.out.below Eq.out (kqa _));clear T Kw Eq Z0 Z1 f Lu;go_loopw [28] (λi wr=>∃(k:Nat) (R:List Dw),k<=dw.length/\i=.int .i64 k/\Hid (R=flQ (a:Int) (dw.take k)++dw.drop k)/\Hid (Bx wr w.heap.size 79 #[.slice A1 n S,.slice t dw.length r,.int .i64 l2,.bool dn])/\Hid (Bx wr (w.heap.size+1) 79 #[.slice none 0 0,.slice none 0 0,.int .i64 0,.bool false])/\Hid (wr.ownsRow M.heap.size 53 1 (.slice A1 n S) n (im.flatMap ae))/\Hid (wr.ownsRow M.heap.size 92 3 (.slice t dw.length r) dw.length (R.flatMap Dw.cells))/\Hid (Below w.heap.size w wr)) (λi _=>dw.length-(intOf i).toNat)
 case atStart=>exact⟨0,dw,kqz _,rfl,hid rfl,U0,U1,Lr,Ma,Ly⟩
 obtain⟨k,R,K,rfl,Lh,V0,V1,VO,N,VB⟩:=hrel;have hz:=VB.out.size;obtain⟨v0,v1,v2,v3,-,-,-,-,hgw⟩:=V0.out.c4;by_cases D:k<dw.length
 .obtain ⟨g,c9,Ld⟩:=gt N.out (by omega);obtain⟨rfl,-,rfl⟩:t=some ⟨g,0,none⟩/\dw.length=dw.length/\r=c9:=by injection Ld with h1 I h3;exact⟨h1,I,h3⟩
  obtain⟨y1,y2,y3,y4⟩:=Ls.out k D R Lh.out;have L:k<R.length:=by rw[y4];exact D
  obtain⟨b,o,he,hbb,p0,p1,p2⟩:=RdQ.at_ (show RdQ wr wr.heap.size (some ⟨g,0,none⟩) R from Rd.of_own N.out) L;obtain⟨rfl,rfl⟩:g=b/\0=o:=by injection he with he;injection he with h1 I h3;exact⟨h1,I⟩
  rw[kxd] at p0 p1 p2;rw[kql L,Option.some.injEq] at y1;rw[y1] at p0 p1 p2;have HM:=hid (Ky.out _ (kqn D));have Y2:=hid y2;have Y3:=hid y3;have Lk:=hid (show R[k]? = some dw[k] by rw[kql L,y1]);obtain⟨x,hx⟩:=xq (dw[k]);rw[hx] at p0 p1 p2 HM Y2 Y3 Lk;obtain⟨xa,s,B⟩:=x;dsimp only at p0 p1 p2 HM;obtain⟨d,rfl⟩:=kq1 (show 0<=xa by have:=HM.out.1;omega);have hxn:d<2048:=by have:=HM.out.2;omega
  have hki:(k:Int)<(dw.length:Int):=by omega
  have hk0:(0:Int)<=(k:Int):=by omega
  have hgb:M.heap.size<=g:=ft N.out;have Lw:w.heap.size≠g:=by omega
  have Lp:w.heap.size+1≠g:=by omega
  have Ll:((d:Int)/8==(a:Int)/8)=decide (d/8=a/8):=by rw[kzl,kqx,kqo];omega
  clear hx Ld he y1 y2 y3 y4 L;by_cases J:d/8=a/8
  .have U:Hid (flB (a:Int) ⟨(d:Int),s,B⟩=⟨(d:Int),s,true⟩):=hid (by unfold flB;rw[if_pos (show (d:Int)/8=(a:Int)/8 by omega)]);rw[decide_eq_true J] at Ll;have hf2:=N.out.frozenAt (k*3+2);have VQN:=hid (show ((wr.setCell ⟨g,k*3+2,none⟩ (.bool true)).alloc (.cells #[.int .i64 (d:Int),.int .u64 (s:Int),.bool B] 92)).ownsRow M.heap.size 92 3 (.slice (some ⟨g,0,none⟩) dw.length r) dw.length ((R.set k ⟨(d:Int),s,true⟩).flatMap Dw.cells) by
    rw[eO Dw.cells 3 Dw.len R k 2 (by omega) ⟨(d:Int),s,true⟩ (.bool true) (λy hy=>by rw[Lk.out] at hy;cases hy;rfl)];exact ((N.out.stored (k*3+2) (.bool true)).1).alloc _)
   have VON:=hid ((aw VO.out (p:=⟨g,k*3+2,none⟩) (show (Value.slice A1 n S).ownBlock≠some g from λh=>by
    rcases dg VO.out N.out (by decide) with I|I
    .rw[h] at I;cases I
    exact I h) (.bool true)).alloc (.cells #[.int .i64 (d:Int),.int .u64 (s:Int),.bool B] 92))
   have Q:=hid ((V0.out.far (p:=⟨g,k*3+2,none⟩) Lw (.bool true)).alloc (.cells #[.int .i64 (d:Int),.int .u64 (s:Int),.bool B] 92));have P:=hid ((V1.out.far (p:=⟨g,k*3+2,none⟩) Lp (.bool true)).alloc (.cells #[.int .i64 (d:Int),.int .u64 (s:Int),.bool B] 92));have V:=hid ((VB.out.setCell (p:=⟨g,k*3+2,none⟩) (by dsimp only;omega) (.bool true)).alloc (by rw[kz6];exact hz) (.cells #[.int .i64 (d:Int),.int .u64 (s:Int),.bool B] 92));have HN:Hid (R.set k ⟨(d:Int),s,true⟩=flQ (a:Int) (dw.take (k+1))++dw.drop (k+1)):=hid (by rw[Y3.out,U.out]);clear J;go_wp2;go_roundw
   case rel=>exact⟨k+1,R.set k ⟨(d:Int),s,true⟩,by omega,by go_num,HN,Q,P,VON,VQN,V⟩
   case measure=>simp[intOf];omega
  have U:Hid (flB (a:Int) ⟨(d:Int),s,B⟩=⟨(d:Int),s,B⟩):=hid (by unfold flB;rw[if_neg (show ¬ (d:Int)/8=(a:Int)/8 by omega)]);rw[decide_eq_false J] at Ll;have VQN:=hid (N.out.alloc (.cells #[.int .i64 (d:Int),.int .u64 (s:Int),.bool B] 92));have VON:=hid (VO.out.alloc (.cells #[.int .i64 (d:Int),.int .u64 (s:Int),.bool B] 92));have Q:=hid (V0.out.alloc (.cells #[.int .i64 (d:Int),.int .u64 (s:Int),.bool B] 92));have P:=hid (V1.out.alloc (.cells #[.int .i64 (d:Int),.int .u64 (s:Int),.bool B] 92));have V:=hid (VB.out.alloc hz (.cells #[.int .i64 (d:Int),.int .u64 (s:Int),.bool B] 92));have HN:Hid (R=flQ (a:Int) (dw.take (k+1))++dw.drop (k+1)):=hid (Y2.out U.out).symm;clear J;go_wp2;go_roundw
  case rel=>exact⟨k+1,R,by omega,by go_num,HN,Q,P,VON,VQN,V⟩
  case measure=>simp[intOf];omega
 have Li:k=dw.length:=by omega
 have Lx:Hid (wr.ownsRow M.heap.size 92 3 (.slice t dw.length r) dw.length ((flQ (a:Int) dw).flatMap Dw.cells)):=hid (by
  have h:=N.out;rw[Lh.out,Li,<-Lv.out] at h;exact h)
 have hend:decide ((k:Int)<(dw.length:Int))=false:=by rw[kqh];omega
 have hendn:decide (k<dw.length)=false:=by rw[kqh];exact D
 clear D K Li;go_wp2_with (first
  | ((with_reducible refine aQ 79 (.tmp 2) ?_);refine ldD V0.out ?_)
  | ((with_reducible refine ar 79 (.tmp 4) _ ?_);refine stD V1.out ?_;intro w9 X u))
 have hgw1:w.heap.size+1<M.heap.size:=q;refine kqq (v:=.tuple #[.agg #[.slice A1 n S,.slice t dw.length r,.int .i64 l2,.bool dn],.int .i64 0]) (bi results182 _ X.out rfl rfl rfl) rfl ⟨⟨_,rfl,by
  rw[HV.out];exact⟨A1,S,t,r,by rw[z.out,Kz.out],by rw[z.out];exact Kx,by rw[z.out];exact am (aq VO.out u.out q) j.out.size,by rw[Kz.out];exact am (aq Lx.out u.out q) j.out.size⟩⟩,u.out.below VB.out (by omega)⟩
end Go.Proofs.YtpcajamacpbjcaaGreat
