/- Entries of a change: what the program and the reference return. -/
import Derived.Test.YtpcajamacpbjcaaGreatZKEff
import Derived.Test.YtpcajamacpbjcaaGreatZKLy1
import Derived.Test.YtpcajamacpbjcaaGreatZKHead
import Derived.Test.YtpcajamacpbjcaaGreatZKRefs
import Derived.Test.YtpcajamacpbjcaaGreatZKMove
import Derived.Test.YtpcajamacpbjcaaGreatZKStg1
set_option maxHeartbeats 16000000
set_option maxRecDepth 100000
set_option linter.all false
namespace Go.Proofs.YtpcajamacpbjcaaGreat
open Lib (hid)
open Go.RowKit Go.Maps
variable {fn:Func}{a b w ws:Int}{ad:List Int}{H g k n:Nat}{p:Tmp}{t:TypeId}{v:Value}{W w':World}
open Go.Proofs.Tryz
def Bz (x w:Int):Bool:=decide (16<=x)&&(decide (x<w)&&(decide (x<24)||decide (96<=x)))
def ep (ad:List Int) (w:Int):Nat->Bool
 | 0=>true
 | k+1=>ep ad w k&&(Bz (ad[k]?.getD 0) w && !bY ad (ad[k]?.getD 0) k)
def eg (ad:List Int) (w:Int):Int:=if ap w=true then (if 32<ad.length then 4 else if ep ad w ad.length=true then 0 else 8) else 2
theorem mJ(h:ep ad w n=true)(hk:k<=n):ep ad w k=true:=by
 induction n with
 | zero =>
  have:k=0:=by omega
  subst this;exact h
 | succ n ih =>
  rcases kq6 k (n+1) with a|a
  .simp only[ep,kqo] at h;exact ih h.1 (by omega)
  have:k=n+1:=by omega
  subst this;exact h
theorem wH(h:ap w=false):eg ad w=2:=by simp[eg,h]
theorem s9(h:ap w=true)(h2:32<ad.length):eg ad w=4:=by simp[eg,h,h2]
theorem ox(h:ap w=true)(h2:ad.length<=32)(hk:ep ad w k=false)(hn:k<=ad.length):eg ad w=8:=by
 have c:ep ad w ad.length=false:=by
  cases b:ep ad w ad.length with
  | false=>rfl
  | true=>rw[mJ b hn] at hk;cases hk
 have a:¬ 32<ad.length:=by omega
 simp[eg,h,c,a]
theorem qL(h:ap w=true)(h2:ad.length<=32)(h3:ep ad w ad.length=true):eg ad w=0:=by
 have a:¬ 32<ad.length:=by omega
 simp[eg,h,h3,a]
theorem rW(h:eg ad w=0):ap w=true/\ad.length<=32/\ep ad w ad.length=true:=by
 unfold eg at h;split at h
 .split at h
  .simp at h
  split at h
  .exact ⟨by assumption,by omega,by assumption⟩
  simp at h
 simp at h
theorem pD(x w:Int):Bz x w=true↔16<=x/\x<w/\(x<24\/96<=x):=by simp[Bz]
theorem yM(h:ep ad w n=true)(hk:k<n):Bz (ad[k]?.getD 0) w=true/\bY ad (ad[k]?.getD 0) k=false:=by have:=mJ h (show k+1<=n from hk);simp only[ep,kqo,kx6] at this;exact this.2
theorem yE(h:Bz (ad[k]?.getD 0) w=false):ep ad w (k+1)=false:=by simp[ep,h]
theorem qk(h:bY ad (ad[k]?.getD 0) k=true):ep ad w (k+1)=false:=by simp[ep,h]
theorem oC(h0:ep ad w k=true)(h:Bz (ad[k]?.getD 0) w=true)(h2:bY ad (ad[k]?.getD 0) k=false):ep ad w (k+1)=true:=by simp[ep,h0,h,h2]
def o9 (n:Int):Int:=if ap n=true then 0 else 2
theorem uA{n:Int}(h:ap n=true):o9 n=0:=by simp[o9,h]
theorem mi{n:Int}(h:ap n=false):o9 n=2:=by simp[o9,h]
theorem mP(n:Int)(w:World):Calls prog 218 #[.int .i64 n] w λe w'=>e=.returned (.int .i64 (o9 n))/\w=w':=by
 by_cases c:n<256
 .have H:Hid (o9 n=2):=hid (mi (by simp[ap];omega));go_enter func218,ntmps218;go_wp2;go_ret;exact⟨by rw[H.out];rfl,rfl⟩
 have h3:256<=n:=by omega
 clear c;by_cases b:2048<n
 .have H:Hid (o9 n=2):=hid (mi (by simp[ap];omega));go_enter func218,ntmps218;go_wp2;go_ret;exact⟨by rw[H.out];rfl,rfl⟩
 have h4:n<=2048:=by omega
 clear b;by_cases a:n%8=0
 .have H:Hid (o9 n=0):=hid (uA (by simp[ap];omega));have d:(n%8 != 0)=false:=by rw[kqq];exact a
  clear a;go_enter func218,ntmps218;go_wp2;go_ret;exact⟨by rw[H.out];rfl,rfl⟩
 have H:Hid (o9 n=2):=hid (mi (by simp[ap];omega));have d:(n%8 != 0)=true:=by rw[kqu];exact a
 clear a;go_enter func218,ntmps218;go_wp2;go_ret;exact⟨by rw[H.out];rfl,rfl⟩
theorem BI(x n:Int)(w:World):Calls prog 219 #[.int .i64 x,.int .i64 n] w λe w'=>e=.returned (.bool (Bz x n))/\w=w':=by
 have H:Hid (∀b:Bool,(b=true↔16<=x/\x<n/\(x<24\/96<=x))->b=Bz x n):=hid λb h=>by rw[kzq,pD];exact h
 go_enter func219,ntmps219;go_wp2_with fail
 all_goals
  go_ret;exact⟨mV (H.out _ (by simp;omega)),rfl⟩
def Di (B:Nat) (w:World) (g:Nat) (ad:List Int) (k:Nat):Prop:=
 (k=0/\Bx w g 278 #[.map none])\/(∃b,B<=b/\Bx w g 278 #[.map (some b)]/\w.ownsMap prog 3 (plainElem prog 4) b k (fd ad k))
def Hc (B:Nat) (g:Nat) (ad:List Int) (k:Nat) (r:Bool) (w:World) (e:Ending) (w':World):Prop:=e=.returned (.bool r)/\Di B w' g ad (k+1)/\Below B w w'/\(∀h t cs,Bx w h t cs->h≠g->Bx w' h t cs)
theorem add_c(B g:Nat)(ad:List Int)(k:Nat)(x:Int)(w:World)(hx:ad[k]?.getD 0=x)(hxb : -9223372036854775808<=x/\x<=9223372036854775807)(hk:k<=1000000)(hBg:B<=g)(hs:Di B w g ad k):
 Calls prog 220 #[.pointer (some ⟨g,0,none⟩),.int .i64 x] w (Hc B g ad k (!bY ad x k) w):=by
 have u:(Lit.int .i64 x).wf=true:=by simp[Lit.wf,IntKind.min,IntKind.max,IntKind.signed,IntKind.bits];omega
 have v:=hid (keyOf_int_mk (P:=prog) underlying3 u);have HX:=hid hx;have F:=hid (show fd ad (k+1)=(fd ad k).put (.int .i64 x) (.lit (.bool true)) by simp only[fd,hx]);have l:=hid (mQ ad x k);obtain⟨r,I⟩:=xq (bY ad x k);rw[I] at l |-;clear hx u I hxb;rcases hs with⟨E,f⟩|⟨b,q,f,d⟩
 .subst E;obtain⟨L,c1,K⟩:=f.c1;have o:=λW:World=>run_eql_map_nil (P:=prog) W 161 3 4 none underlying161;have e:=hid f;clear f;have hmm:=@run_makeMap prog;have n:((w.setCell ⟨g,0,none⟩ (.map (some w.heap.size))).alloc (Obj.map #[] 0)).ownsMap prog 3 (plainElem prog 4) w.heap.size 0 (fd ad 0):=by have:=World.ownsMap_made (H:=Unit) (w.setCell ⟨g,0,none⟩ (.map (some w.heap.size))) prog 3 (plainElem prog 4);rwa [kz6] at this
  have z:=iu n nq underlying161 underlying4 (mp _) v.out l.out;have i:=hid n;have s:=hid (((e.out.set_ 0 (.map (some w.heap.size)))).alloc (Obj.map #[] 0));have D:=hid ((((kqk B w).setCell (p:=⟨g,0,none⟩) hBg (.map (some w.heap.size)))).alloc (by simp;omega) (Obj.map #[] 0));clear n;go_enter func220,ntmps220;go_wp2_with (at_mapUpdate;refine wpList_mapUpdate_own _ rfl _ _ _ 161 rfl 3 4 nq underlying161 _ w.heap.size 0 _ rfl i.out (by simp[maxLen]) _ _ _ rfl rfl v.out (.lit (.bool true)) [] (plainElem_bool underlying4 true) ?_;intro G c a);go_ret;have m:=D.out.grown a (by simp;omega) (λj C=>by cases C;omega);refine⟨rfl,.inr ⟨w.heap.size,by omega,s.out.grown a (gi s.out i.out),by rw[F.out];exact c⟩,m,λh t cs y A=>?_⟩;have J:=(y.far (p:=⟨g,0,none⟩) A (.map (some w.heap.size))).alloc (Obj.map #[] 0);exact J.grown a (gi J i.out)
 obtain⟨L,c1,K⟩:=f.c1;have z:=iu d nq underlying161 underlying4 (mp w) v.out l.out;have o:=λW:World=>run_eql_map_nil (P:=prog) W 161 3 4 (some b) underlying161;have e:=hid f;clear f;go_enter func220,ntmps220;go_wp2_with (at_mapUpdate;refine wpList_mapUpdate_own _ rfl _ _ _ 161 rfl 3 4 nq underlying161 _ b k _ rfl d (by unfold maxLen;omega) _ _ _ rfl rfl v.out (.lit (.bool true)) [] (plainElem_bool underlying4 true) ?_;intro G c a);go_ret;have m:Below B w G:=(kqk B w).grown a (by omega) (λj C=>by cases C;exact q);exact⟨rfl,.inr ⟨b,q,e.out.grown a (gi e.out d),by rw[F.out];exact c⟩,m,λh t cs y _=>y.grown a (gi y d)⟩
theorem Ci{l:List En}(ho:∀e∈l,e.ok)(hk:k<l.length): -9223372036854775808<=(aF l)[k]?.getD 0/\(aF l)[k]?.getD 0<=9223372036854775807:=by rw[ey l k hk];have:=ho l[k] (kqp hk);exact⟨this.1,this.2.1⟩
theorem wY(A:Option Addr)(l:List En)(c n:Nat)(ws:Int)(w:World)(hn:l.length=n)(hm:n<=9223372036854775807)(hr:RdE w w.heap.size A l)(ho:∀e∈l,e.ok):
 Calls prog 170 #[.slice A n c,.int .i64 ws] w λe w'=>e=.returned (.int .i64 (eg (aF l) ws))/\Below w.heap.size w w':=by
 subst hn;have W:=hid hr;have V:=hid ho;clear hr ho;cases u:ap ws
 .have z:=hid (wH (ad:=aF l) u);have J:=hid (mi u);clear u;go_enter func170,ntmps170;go_wp2_with fail;refine (mP ws w).mono ?_;rintro e I ⟨rfl,rfl⟩;rw[J.out];go_wp2;go_ret;exact⟨by rw[z.out];rfl,kqk _ _⟩
 have H:=hid u;have J:=hid (uA u);clear u;by_cases C:32<l.length
 .have z:=hid (s9 (ad:=aF l) H.out (by rw[aZ];exact C));go_enter func170,ntmps170;go_wp2_with fail;refine (mP ws w).mono ?_;rintro e I ⟨rfl,rfl⟩;rw[J.out];go_wp2;go_ret;exact⟨by rw[z.out];rfl,kqk _ _⟩
 have r:l.length<=32:=by omega
 have hgt:decide ((32:Int)<(l.length:Int))=false:=by rw[kqh];omega
 clear C;go_enter func170,ntmps170;go_wp2_with fail;refine (mP ws w).mono ?_;rintro e I ⟨rfl,rfl⟩;rw[J.out];go_wp2_with fail;go_loopw [19] (λi wr=>∃k:Nat,k<=l.length/\i=.int .i64 k/\ep (aF l) ws k=true/\Di w.heap.size wr w.heap.size (aF l) k/\Below w.heap.size w wr) (λi _=>l.length-(intOf i).toNat)
 case atStart=>exact⟨0,kqy _,rfl,rfl,.inl ⟨rfl,Bx.new w _ _⟩,(kqk _ _).alloc (kqa _) _⟩
 obtain⟨k,hk,rfl,j,s,y⟩:=hrel;have S:=y.size;by_cases a:k<l.length
 .obtain ⟨b,F,rfl,T,K,t⟩:=W.out.at_ a;replace K:=(y.cell (p:=⟨b,F+k*2,none⟩) T).trans K;replace t:=(y.cell (p:=⟨b,F+k*2+1,none⟩) T).trans t;have q:=Ci V.out a;rw[<-ey l k a] at K;obtain⟨x,L⟩:=xq ((aF l)[k]?.getD 0);rw[L] at K q;have O:=hid j;have G:=hid L;have Q:=hid q;have ik1:(0:Int)<=(k:Int):=by omega
  have ik2:(k:Int)<(l.length:Int):=by omega
  have o:Di w.heap.size (wr.alloc (.cells #[.int .i64 x,.int .u64 (l[k].v:Int)] 89)) w.heap.size (aF l) k:=by
   rcases s with⟨t,M⟩|⟨m,t,M,U⟩
   .exact .inl ⟨t,M.alloc _⟩
   exact .inr ⟨m,t,M.alloc _,U.alloc _⟩
  have R:=hid o;clear j L s o q;go_wp2_with fail;refine (BI x ws _).mono ?_;rintro e I ⟨rfl,rfl⟩;cases h:Bz x ws
  .have f:=hid (ox H.out (by rw[aZ];exact r) (k:=k+1) (yE (by rw[G.out];exact h)) (by rw[aZ];exact a));clear h;go_wp2;go_ret;exact⟨by rw[f.out];rfl,y.alloc S _⟩
  have P:=hid h;clear h;go_wp2_with fail;refine (add_c w.heap.size w.heap.size (aF l) k x _ G.out Q.out (by omega) (kqa _) R.out).mono ?_;rintro e I ⟨rfl,d,N,-⟩;have D:=(y.alloc S (.cells #[.int .i64 x,.int .u64 (l[k].v:Int)] 89)).trans N;cases g:bY (aF l) x k
  .have E:=hid (oC O.out (by rw[G.out];exact P.out) (by rw[G.out];exact g));clear g;have B:=hid d;clear d;go_wp2;go_roundw
   case rel=>exact⟨k+1,by omega,by go_num,E.out,B.out,D⟩
   case measure=>simp[intOf];omega
  have f:=hid (ox H.out (by rw[aZ];exact r) (k:=k+1) (qk (by rw[G.out];exact g)) (by rw[aZ];exact a));clear g d;go_wp2;go_ret;exact⟨by rw[f.out];rfl,D⟩
 obtain rfl:k=l.length:=by omega
 have z:=hid (qL H.out (by rw[aZ];exact r) (by rw[aZ];exact j));clear s j;go_wp2;go_ret;exact⟨by rw[z.out];rfl,y⟩
def cq:List En->List Nat
 | []=>[]
 | e::l=>e.a.toNat::e.v::cq l
def dR (l:List En) (ws:Int):List Nat:=if eg (aF l) ws=0 then cq l else []
theorem jt(l:List En):(cq l).length=2*l.length:=by
 induction l with
 | nil=>rfl
 | cons e l ih=>simp only[cq,kq1,ih];omega
theorem wl(l:List En)(e:En):cq (l++[e])=cq l++[e.a.toNat,e.v]:=by
 induction l with
 | nil=>rfl
 | cons x l ih=>simp[cq,ih]
def xB (H:Nat) (l:List En) (ws:Int) (e:Ending) (w':World):Prop:=∃A c,e=.returned (.tuple #[.slice A (dR l ws).length c,.int .i64 (eg (aF l) ws)])/\w'.ownsRow H 53 1 (.slice A (dR l ws).length c) (dR l ws).length ((dR l ws).flatMap aa)
theorem qN{M:Nat}{l:List En}(h0:eg (aF l) ws=0)(hn:n=2*l.length)(h:w'.ownsRow M 53 1 v n ((cq l).flatMap aa))(hH:H<=M):xB H l ws (.returned (.tuple #[v,.int .i64 0])) w':=by
 have a:dR l ws=cq l:=by simp[dR,h0]
 have b:(dR l ws).length=n:=by rw[a,jt,hn]
 obtain⟨A,c,rfl⟩:=aS h;refine⟨A,c,by rw[b,h0],?_⟩;rw[b,a];exact am h hH
theorem DK{l:List En}{r:Int}(hr:eg (aF l) ws=r)(h0:r≠0):xB H l ws (.returned (.tuple #[.slice none 0 0,.int .i64 r])) w':=by
 subst hr;have:dR l ws=[]:=by simp[dR,h0]
 exact⟨none,0,by rw[this];rfl,by rw[this];exact kza _ _ _ _⟩
theorem zD(w:World)(cs:List Value)(t:TypeId)(h:w.heap.size=H):∀j u,cs[j]? = some u->(w.alloc (.cells cs.toArray t)).cell? ((⟨H,0,none⟩:Addr).add j)=some u:=by subst h;exact dd w cs t
theorem nV(A:Option Addr)(l:List En)(c n:Nat)(ws:Int)(w:World)(hn:l.length=n)(hm:n<=9223372036854775807)(o:RdE w w.heap.size A l)(ho:∀e∈l,e.ok):
 Calls prog 124 #[.slice A n c,.int .i64 ws] w λe w'=>xB w.heap.size l ws e w'/\Below w.heap.size w w':=by
 subst hn;have W:=hid o;have U:=hid ho;clear o ho;obtain⟨i0,T,f,E,u⟩:=kzw jI;have HI:=hid T;have J:=hid f;have L:=hid E;have H:=hid u;clear T f E u;go_enter func124,ntmps124;go_wp2_with fail;refine (wY A l c l.length ws w rfl hm W.out U.out).mono ?_;rintro e F ⟨rfl,m⟩;have f:=m.size;by_cases g:eg (aF l) ws=0
 .obtain ⟨V,M,q⟩:=rW g;rw[aZ] at M;have Y:=hid g;have Z:=hid q;have hw2:=((ae ws).1 V).2.1;rw[g];clear g q V;go_wp2_with fail;go_loopw [7,18] (λv i wr=>∃k:Nat,k<=l.length/\i=.int .i64 k/\wr.ownsRow F.heap.size 53 1 v (2*k) ((cq (l.take k)).flatMap aa)/\Below F.heap.size F wr) (λ_ i _=>l.length-(intOf i).toNat)
  case atStart=>exact⟨0,kqy _,rfl,kza _ _ _ _,kqk _ _⟩
  obtain⟨k,hk,rfl,d,G⟩:=hrel;have X:=G.size;by_cases h:k<l.length
  .obtain ⟨b,B,rfl,S,g,z⟩:=W.out.at_ h;have t:=m.trans (G.mono f);replace g:=(t.cell (p:=⟨b,B+k*2,none⟩) S).trans g;replace z:=(t.cell (p:=⟨b,B+k*2+1,none⟩) S).trans z;have j:=(pD _ _).1 (yM Z.out (show k<(aF l).length by rw[aZ];exact h)).1;rw[ey l k h] at j;have y:=(U.out l[k] (kqp h)).2.2;have R:Hid (∀x v,l[k].a=x->l[k].v=v->0<=x->(cq (l.take (k+1))).flatMap aa=(cq (l.take k)).flatMap aa++[.int .u64 x,.int .u64 (v:Int)]):=hid λx v z h2 h3=>by
    rw[kqn h,wl,kxf,z,h2];simp only[kzp,List.flatMap_nil,aa,kzr,kzg,kzv];rw[kkg h3]
   obtain⟨x,I⟩:=xq (l[k].a);obtain⟨v,P⟩:=xq (l[k].v);have D:=R.out x v I P;rw[I] at g j;rw[P] at z y;obtain⟨m1,m2,-⟩:=j;have N:0<=x:=by omega
   have hx1:x<=2048:=by omega
   have K:=hid (D N);have hv0:(0:Int)<=(v:Int):=by omega
   have ik1:(0:Int)<=(k:Int):=by omega
   have ik2:(k:Int)<(l.length:Int):=by omega
   clear R D I P m1 m2 y;go_wp2_with (at_builtin;refine kzk _ rfl _ _ 22 rfl F.heap.size 53 i0 _ 1 8 underlying22 HI.out J.out L.out H.out rfl (by decide) _ _ _ rfl ((d.alloc _).alloc _) ⟨_,0,none⟩ 2 2 [.int .u64 x,.int .u64 (v:Int)] rfl rfl (zD _ _ _ (kqm _ _)) (by simp[Value.oneCell']) (by unfold maxLen;omega) (by omega) (by simp;omega) ?_;intro v1 w1 s O _);have Q:=aO (G.alloc X (.cells #[.int .i64 x,.int .u64 (v:Int)] 89)) (by simp;omega) (d.alloc _) O;go_roundw
   case rel=>exact⟨k+1,by omega,by go_num,by rw[K.out,show 2*(k+1)=2*k+2 by omega];exact s,Q⟩
   case measure=>simp[intOf];omega
  obtain rfl:k=l.length:=by omega
  rw[kzf] at d;go_wp2;go_ret2;exact⟨qN Y.out rfl d f,m.trans (G.mono f)⟩
 have HX:=hid g;obtain⟨r,o⟩:=xq (eg (aF l) ws);have hn1:(r==0)=false:=by rw[<-o,kqj];exact g
 have hn2:(r != 0)=true:=by rw[<-o,kqu];exact g
 have C:=hid o;rw[o];clear g o;go_wp2;go_ret2;exact⟨DK C.out (by rw[<-C.out];exact HX.out),m⟩
def lH (cs:Array Value) (ad:List Int) (n:Nat):Prop:=cs.size=256/\∀i,i<256->cs[i]? = some (.bool (ce ad (8*(i:Int)) n))
theorem zq{cs:Array Value}{x:Nat}(h:lH cs ad k)(hx:ad[k]?.getD 0=(x:Int)):lH (cs.setIfInBounds (x/8) (.bool true)) ad (k+1):=by
 refine⟨by rw[kkk];exact h.1,λi a=>?_⟩;rw[kxv];simp only[ce,hx];by_cases e:x/8=i
 .subst e;rw[if_pos rfl,if_pos (by rw[h.1];exact a)];have:((x:Int)/8==8*((x/8:Nat):Int)/8)=true:=by rw[kqw];omega
  rw[this,kvh]
 have:((x:Int)/8==8*(i:Int)/8)=false:=by rw[kqj];omega
 rw[if_neg e,h.2 i a,this,kkn]
def jX:Array Value:=Array.replicate 256 (.bool false)
theorem tS(w:World):(zeroValue 156).run prog w=.ok (.agg jX) w:=by kernel_rfl
theorem lines0(ad:List Int):lH jX ad 0:=⟨by simp[jX],λi a=>by simp[jX,a,ce]⟩
def LnRes (ad:List Int) (n:Nat) (e:Ending):Prop:=∃cs,e=.returned (.agg cs)/\lH cs ad n
theorem Gc(A:Option Addr)(l:List En)(c n:Nat)(w:World)(hn:l.length=n)(hm:n<=9223372036854775807)(hr:RdE w w.heap.size A l)(ho:∀k,k<l.length->0<=(aF l)[k]?.getD 0/\(aF l)[k]?.getD 0<2048):
 Calls prog 181 #[.slice A n c] w λe w'=>LnRes (aF l) n e/\Below w.heap.size w w':=by
 subst hn;have I:=hid hr;have F:=hid ho;clear hr ho;have hzv:=tS;go_enter func181,ntmps181;go_wp2_with fail;go_loopw [7] (λi wr=>∃(k:Nat) (cs:Array Value),k<=l.length/\i=.int .i64 k/\lH cs (aF l) k/\Bx wr w.heap.size 156 cs/\Below w.heap.size w wr) (λi _=>l.length-(intOf i).toNat)
 case atStart=>exact⟨0,_,kqy _,rfl,lines0 _,Bx.new w _ _,(kqk _ _).alloc (kqa _) _⟩
 obtain⟨k,cs,hk,rfl,a,d,s⟩:=hrel;have hz:=s.size;by_cases g:k<l.length
 .obtain ⟨b,r,rfl,C,t,E⟩:=I.out.at_ g;replace t:=(s.cell (p:=⟨b,r+k*2,none⟩) C).trans t;replace E:=(s.cell (p:=⟨b,r+k*2+1,none⟩) C).trans E;obtain⟨D,H⟩:=F.out k g;rw[<-ey l k g] at t;obtain⟨x,u⟩:=kqz D;rw[u] at t D H;have G:=hid u;have y:x/8<256:=by omega
  have j:=d.cell (x/8);rw[a.2 _ y] at j;have hfr:=d.frozen (x/8);have hlt2:=d.lt;have o:=hid a;have f:=hid d;have ik1:(0:Int)<=(k:Int):=by omega
  have ik2:(k:Int)<(l.length:Int):=by omega
  clear u a d;go_wp2_with fail;refine⟨⟨k+1,_,by omega,by go_num,zq o.out G.out,(f.out.set_ (x/8) (.bool true)).alloc _,(s.setCell (p:=⟨w.heap.size,x/8,none⟩) (kqa _) _).alloc (by simp;omega) _⟩,?_⟩;simp[intOf];omega
 obtain rfl:k=l.length:=by omega
 have q:(prog.info? 156).map (·.size)=some cs.size:=by rw[a.1];kernel_rfl
 have B:cs.all (·.oneCell')=true:=by rw[kkv];intro i q;have h:=a.2 i (by have:=a.1;omega);rw[kja q] at h;injection h with h;rw[h];rfl
 have m:=hid (qc d);have z:=jB d;have o:=hid a;have f:=hid d;clear a d;go_wp2_with (first
  | (refine kxc rfl _ _ rfl w.heap.size (by rfl) 156 cs (0,0) _ f.out underlying156 (by rfl) q ?_)
  | (refine kjh rfl _ _ _ rfl w.heap.size 0 cs (by rfl) (by rfl) z q B ?_;rw[m.out]))
 refine kqr (v:=.agg cs) (results_cell_row rfl _ _ w.heap.size _ cs (0,0) _ (by rfl) f.out underlying156 (by rfl) q) rfl ⟨⟨cs,rfl,o.out⟩,s⟩
open Go.RowKit
structure Dw where
 a:Int
 v:Nat
 f:Bool
 deriving DecidableEq,Inhabited
variable {l:List Dw}
def Dw.cells (x:Dw):List Value:=[.int .i64 x.a,.int .u64 (x.v:Int),.bool x.f]
theorem Dw.len(x:Dw):x.cells.length=3:=rfl
theorem Dw.one:∀x:Dw,∀u∈x.cells,u.oneCell'=true:=λx u a=>by unfold Dw.cells at a;simp only[kqt,kzb,or_false] at a;rcases a with rfl|rfl|rfl<;>rfl
structure Dv where
 im:List Nat
 dw:List Dw
 left:Int
 down:Bool
 deriving DecidableEq,Inhabited
variable {d:Dv}
def gN (n:Nat):List Dw->Int->Bool
 | [],_=>true
 | e::l,b=>decide (b<e.a)&&(decide (e.a<(n:Int))&&gN n l e.a)
def fX (d:Dv):Bool:=ap (d.im.length:Int)&&(decide (-1<=d.left)&&(decide (d.left<=1000000)&&((!d.down||d.left==0)&&gN d.im.length d.dw (-1))))
def fa (d:Dv):Int:=if fX d=true then 0 else 8
def km (x:List Nat) (l:List Dw):List Nat:=l.foldl (λx e=>x.set e.a.toNat e.v) x
def dvV (d:Dv):List Nat:=km d.im d.dw
def dec (l:Int):Int:=if 0<l then l-1 else l
def stQ:List Dw->Int->Nat->List Dw
 | [],a,v=>[⟨a,v,false⟩]
 | e::l,a,v=>if e.a<a then e::stQ l a v else if e.a=a then ⟨a,v,false⟩::l else ⟨a,v,false⟩::e::l
def flB (a:Int) (e:Dw):Dw:=if e.a/8=a/8 then { e with f:=true } else e
def flQ (a:Int) (l:List Dw):List Dw:=l.map (flB a)
def fnI (x:List Nat) (l:List Dw):List Nat:=km x (l.filter (·.f))
def fnQ (l:List Dw):List Dw:=l.filter λe=>!e.f
def dvD (d:Dv):Dv:={ d with down:=true }
def dvS (d:Dv) (a:Int) (v:Nat):Dv:=if d.left=0 then dvD d else { d with dw:=stQ d.dw a v,left:=dec d.left }
def dvF (d:Dv) (a:Int):Dv:=if d.left=0 then dvD d else { d with dw:=flQ a d.dw,left:=dec d.left }
def dvN (d:Dv):Dv:=if d.left=0 then dvD d else { d with im:=fnI d.im d.dw,dw:=fnQ d.dw,left:=dec d.left }
def vv (d:Dv) (l:List En):Dv:=l.foldl (λd e=>dvS d e.a e.v) d
def qE (ad:List Int) (d:Dv):Nat->Dv
 | 0=>d
 | k+1=>if ce ad (8*(k:Int)) ad.length=true then dvF (qE ad d k) (8*(k:Int)) else qE ad d k
def rpP (d:Dv) (l:List En):Dv:=dvN (qE (aF l) (vv d l) 256)
def lsE (a:Int):List Nat->List En
 | []=>[]
 | v::l=>⟨a,v⟩::lsE (a+1) l
def cmW (l:List En):Nat:=(aR 14695981039346656037 (cq l)%288230376151711744)*64+l.length
def atM (d:Dv) (l:List En):Dv:=if l=[] then d else rpP (rpP (rpP (rpP d (lsE 32 (cq l))) [⟨24,cmW l⟩]) l) [⟨24,0⟩]
def atErr (d:Dv) (l:List En):Int:=if fa d=0 then (if eg (aF l) (d.im.length:Int)=0 then (if wd (dvV d) 24=0 then 0 else 8) else eg (aF l) (d.im.length:Int)) else fa d
theorem ms:∀(l:List Dw) (x:List Nat),(km x l).length=x.length:=by
 intro l
 induction l with
 | nil=>intro x;rfl
 | cons e l ih=>intro x;show (km (x.set e.a.toNat e.v) l).length=_;rw[ih,kq4]
theorem ch(d:Dv):fX d=true↔ap (d.im.length:Int)=true /\ -1<=d.left/\d.left<=1000000/\(d.down=true->d.left=0)/\gN d.im.length d.dw (-1)=true:=by
 unfold fX;simp only[kqo,kzc,kxw,kx6,kqw];constructor
 .rintro ⟨c,b,e,a,f⟩;refine⟨c,b,e,λh=>?_,f⟩;rcases a with a|a
  .rw[a] at h;cases h
  exact a
 rintro ⟨c,b,e,a,f⟩;refine⟨c,b,e,?_,f⟩;cases g:d.down with
 | false=>exact .inl rfl
 | true=>exact .inr (a g)
theorem lN(h:fa d=0):fX d=true:=by
 unfold fa at h;split at h
 .assumption
 cases h
theorem fO(h:fX d=true):fa d=0:=by unfold fa;rw[if_pos h]
theorem Ao{b':Int}(h:gN n l b=true)(hb:b'<=b):gN n l b'=true:=by
 cases l with
 | nil=>rfl
 | cons e l =>simp only[gN,kqo,kzc] at h |-;exact⟨by omega,h.2⟩
theorem iQ :∀ {l:List Dw} {b:Int},gN n l b=true->∀e∈l,b<e.a/\e.a<(n:Int):=by
 intro l
 induction l with
 | nil=>intro b _ e c;exact absurd c (by simp)
 | cons x l ih =>
  intro b h e c;simp only[gN,kqo,kzc] at h;rcases kqt.1 c with rfl|c
  .exact ⟨h.1,h.2.1⟩
  have:=ih h.2.2 e c;omega
theorem stQ_to{v:Nat}(ha:a<(n:Int)):∀ {l:List Dw} {b:Int},gN n l b=true->b<a->gN n (stQ l a v) b=true:=by
 intro l
 induction l with
 | nil=>intro b _ f;simp[stQ,gN];omega
 | cons e l ih =>
  intro b h f;simp only[gN,kqo,kzc] at h;unfold stQ;by_cases d:e.a<a
  .rw[if_pos d];simp only[gN,kqo,kzc];exact⟨h.1,h.2.1,ih h.2.2 d⟩
  rw[if_neg d];by_cases c:e.a=a
  .rw[if_pos c];simp only[gN,kqo,kzc];exact⟨f,ha,by rw[<-c];exact h.2.2⟩
  rw[if_neg c];simp only[gN,kqo,kzc];exact⟨f,ha,by omega,h.2.1,h.2.2⟩
theorem flQ_to :∀ {l:List Dw} {b:Int},gN n (flQ a l) b=gN n l b:=by
 intro l
 induction l with
 | nil=>intro b;rfl
 | cons e l ih =>
  intro b;have c:(flB a e).a=e.a:=by unfold flB;split<;>rfl
  show (decide (b<(flB a e).a)&&(decide ((flB a e).a<(n:Int))&&gN n (flQ a l) (flB a e).a))=_;rw[c,ih];rfl
theorem yc{p:Dw->Bool}:∀ {l:List Dw} {b:Int},gN n l b=true->gN n (l.filter p) b=true:=by
 intro l
 induction l with
 | nil=>intro b _;rfl
 | cons e l ih =>
  intro b h;simp only[gN,kqo,kzc] at h;rw[kjg];split
  .simp only[gN,kqo,kzc];exact⟨h.1,h.2.1,ih h.2.2⟩
  exact Ao (ih h.2.2) (by omega)
theorem Be{l:Int}(h1 : -1<=l)(h2:l<=1000000): -1<=dec l/\dec l<=1000000:=by unfold dec;split<;>omega
theorem Ae(h:fX d=true)(h0:d.left=0):fX (dvD d)=true:=by rw[ch] at h |-;exact⟨h.1,h.2.1,h.2.2.1,λ_=>h0,h.2.2.2.2⟩
theorem yd{v:Nat}(h:fX d=true)(h0:0<=a)(ha:a<(d.im.length:Int)):fX (dvS d a v)=true:=by
 unfold dvS;by_cases b:d.left=0
 .rw[if_pos b];exact Ae h b
 rw[if_neg b];rw[ch] at h |-;obtain⟨e,c⟩:=Be h.2.1 h.2.2.1;exact⟨h.1,e,c,λf=>absurd (h.2.2.2.1 f) b,stQ_to ha h.2.2.2.2 (by omega)⟩
theorem Ee(h:fX d=true):fX (dvF d a)=true:=by
 unfold dvF;by_cases b:d.left=0
 .rw[if_pos b];exact Ae h b
 rw[if_neg b];rw[ch] at h |-;obtain⟨e,c⟩:=Be h.2.1 h.2.2.1;exact⟨h.1,e,c,λf=>absurd (h.2.2.2.1 f) b,by dsimp only;rw[flQ_to];exact h.2.2.2.2⟩
theorem Ej(h:fX d=true):fX (dvN d)=true:=by
 unfold dvN;by_cases b:d.left=0
 .rw[if_pos b];exact Ae h b
 rw[if_neg b];rw[ch] at h |-;obtain⟨e,f⟩:=Be h.2.1 h.2.2.1;have a:(fnI d.im d.dw).length=d.im.length:=ms _ _;refine⟨by dsimp only;rw[a];exact h.1,e,f,λc=>absurd (h.2.2.2.1 c) b,?_⟩;dsimp only;rw[a];exact yc h.2.2.2.2
theorem tf(d:Dv)(a:Int)(v:Nat):(dvS d a v).im=d.im:=by unfold dvS dvD;split<;>rfl
theorem Ei(d:Dv)(a:Int):(dvF d a).im=d.im:=by unfold dvF dvD;split<;>rfl
theorem yX(d:Dv):(dvN d).im.length=d.im.length:=by
 unfold dvN dvD;split
 .rfl
 exact ms _ _
theorem F7:∀(l:List En) (d:Dv),(vv d l).im=d.im:=by
 intro l
 induction l with
 | nil=>intro d;rfl
 | cons e l ih=>intro d;show (vv (dvS d e.a e.v) l).im=_;rw[ih,tf]
theorem EU(ad:List Int)(d:Dv):∀k,(qE ad d k).im=d.im:=by
 intro k
 induction k with
 | zero=>rfl
 | succ k ih =>
  unfold qE;split
  .rw[Ei,ih]
  exact ih
theorem pg(d:Dv)(l:List En):(rpP d l).im.length=d.im.length:=by unfold rpP;rw[yX,EU,F7]
theorem zM:∀(l:List En) {d:Dv},fX d=true->(∀e∈l,0<=e.a/\e.a<(d.im.length:Int))->fX (vv d l)=true:=by
 intro l
 induction l with
 | nil=>intro d h _;exact h
 | cons e l ih =>intro d h b;have c:=b e (by simp);exact ih (d:=dvS d e.a e.v) (yd h c.1 c.2) λx f=>by rw[tf];exact b x (by simp[f])
theorem z7(h:fX d=true):∀k,fX (qE ad d k)=true:=by
 intro k
 induction k with
 | zero=>exact h
 | succ k ih =>
  unfold qE;split
  .exact Ee ih
  exact ih
theorem yB{l:List En}(h:fX d=true)(he:∀e∈l,0<=e.a/\e.a<(d.im.length:Int)):fX (rpP d l)=true:=Ej (z7 (zM l h he) _)
def RdQ (w:World) (B:Nat) (A:Option Addr) (l:List Dw):Prop:=Rd w B A (l.flatMap Dw.cells)
theorem RdQ.at_{w:World}{B:Nat}{A:Option Addr}(h:RdQ w B A l)(hk:k<l.length):
 ∃b c,A=some ⟨b,c,none⟩/\b<B/\w.cell? ⟨b,c+k*3,none⟩=some (.int .i64 l[k].a)/\w.cell? ⟨b,c+k*3+1,none⟩=some (.int .u64 (l[k].v:Int))/\w.cell? ⟨b,c+k*3+2,none⟩=some (.bool l[k].f):=by obtain⟨b,c,e,g,d⟩:=Rd.at_flat Dw.len h (by omega) hk;exact⟨b,c,e,g,d 0 (by omega),d 1 (by omega),d 2 (by omega)⟩
theorem zS(hk:k<l.length):gN n (l.drop k) b=(decide (b<l[k].a)&&(decide (l[k].a<(n:Int))&&gN n (l.drop (k+1)) l[k].a)):=by rw[kxq hk];rfl
def Ds (n:Nat) (lf:Int) (dn:Bool):Bool:=ap (n:Int)&&(decide (-1<=lf)&&(decide (lf<=1000000)&&(!dn||lf==0)))
theorem Du(im:List Nat)(dw:List Dw)(lf:Int)(dn:Bool):fX ⟨im,dw,lf,dn⟩=(Ds im.length lf dn&&gN im.length dw (-1)):=by unfold fX Ds;simp only[Bool.and_assoc]
theorem kR(A DA:Option Addr)(im:List Nat)(dw:List Dw)(lf:Int)(dn:Bool)(n c m dc:Nat)(w:World)(hn:im.length=n)(hm:dw.length=m)(hn2:n<=9223372036854775807)(hm2:m<=4611686018427387904)(hr:RdQ w w.heap.size DA dw):
 Calls prog 123 #[.agg #[.slice A n c,.slice DA m dc,.int .i64 lf,.bool dn]] w λe w'=>e=.returned (.int .i64 (fa ⟨im,dw,lf,dn⟩))/\Below w.heap.size w w':=by
 have q:=hid (λW=>aB A n c W hn2);have u:Hid (fa ⟨im,dw,lf,dn⟩=if Ds n lf dn&&gN n dw (-1) then 0 else 8):=hid (by unfold fa;rw[Du,hn]);have a:Ds n lf dn=(ap (n:Int)&&(decide (-1<=lf)&&(decide (lf<=1000000)&&(!dn||lf==0)))):=rfl;have H:=hid (Bx.new w 79 #[.slice A n c,.slice DA m dc,.int .i64 lf,.bool dn]);have f:=hid ((kqk w.heap.size w).alloc (kqa _) (.cells #[.slice A n c,.slice DA m dc,.int .i64 lf,.bool dn] 79));have S:=hid hr;obtain⟨t,j⟩:=xq (w.alloc (.cells #[.slice A n c,.slice DA m dc,.int .i64 lf,.bool dn] 79));rw[j] at H f;obtain⟨Q,q1,q2,q3,-,-,-,-,R⟩:=H.out.c4;clear hr hn hn2;cases z:ap (n:Int)
 .have d:Hid (fa ⟨im,dw,lf,dn⟩=8):=hid (by rw[u.out,a,z];rfl);have l:=hid (cn z);clear z a;go_enter func123,ntmps123;go_wp2_with fail;refine (q.out t).mono ?_;rintro e E ⟨rfl,rfl⟩;rw[l.out];clear j;go_wp2;go_ret;exact⟨by rw[d.out];rfl,f.out⟩
 have l:=hid (bG z);rw[z,kzx] at a;clear z;by_cases h1:lf < -1
 .have d:Hid (fa ⟨im,dw,lf,dn⟩=8):=hid (by rw[u.out,a,decide_eq_false (by omega)];rfl);clear a;go_enter func123,ntmps123;go_wp2_with fail;refine (q.out t).mono ?_;rintro e E ⟨rfl,rfl⟩;rw[l.out];clear j;go_wp2;go_ret;exact⟨by rw[d.out];rfl,f.out⟩
 rw[decide_eq_true (show -1<=lf by omega),kzx] at a;by_cases h2:1000000<lf
 .have d:Hid (fa ⟨im,dw,lf,dn⟩=8):=hid (by rw[u.out,a,decide_eq_false (by omega)];rfl);clear a;go_enter func123,ntmps123;go_wp2_with fail;refine (q.out t).mono ?_;rintro e E ⟨rfl,rfl⟩;rw[l.out];clear j;go_wp2;go_ret;exact⟨by rw[d.out];rfl,f.out⟩
 rw[decide_eq_true (show lf<=1000000 by omega),kzx] at a;have s:(dn=true/\lf≠0)\/(!dn||lf==0)=true:=by
  cases dn with
  | false=>exact .inr rfl
  | true =>
   by_cases h:lf=0
   .exact .inr (by rw[h];rfl)
   exact .inl ⟨rfl,h⟩
 rcases s with⟨rfl,s⟩|s
 .have I:(lf==0)=false:=by rw[kqj];exact s
  have e4:(lf != 0)=true:=by rw[kqu];exact s
  have d:Hid (fa ⟨im,dw,lf,true⟩=8):=hid (by rw[u.out,a,I];rfl);clear a s I;go_enter func123,ntmps123;go_wp2_with fail;refine (q.out t).mono ?_;rintro e E ⟨rfl,rfl⟩;rw[l.out];clear j;go_wp2;go_ret;exact⟨by rw[d.out];rfl,f.out⟩
 rw[s] at a;rw[a,kzx] at u;have U:dn=false\/(dn=true/\lf=0):=by
  cases dn with
  | false=>exact .inl rfl
  | true=>exact .inr ⟨rfl,by simpa using s⟩
 have F:=hid (S.out.below f.out);subst hm;clear a s;rcases U with rfl|⟨rfl,rfl⟩
 all_goals
  go_enter func123,ntmps123;go_wp2_with fail;refine (q.out t).mono ?_;rintro e E ⟨rfl,rfl⟩;rw[l.out];clear j;go_wp2_with fail;go_loopw [33,4] (λi P wr=>∃(k:Nat) (b:Int),k<=dw.length/\i=.int .i64 k/\P=.int .i64 b/\Hid (gN n dw (-1)=gN n (dw.drop k) b)/\Below t.heap.size t wr) (λi _ _=>dw.length-(intOf i).toNat)
  case atStart=>exact⟨0,-1,kqy _,rfl,rfl,hid rfl,kqk _ _⟩
  obtain⟨k,b,M,rfl,rfl,D,B⟩:=hrel;by_cases r:k<dw.length
  .obtain ⟨g,o,rfl,hgb,J,K,L⟩:=RdQ.at_ (show RdQ wr w.heap.size DA dw from Rd.keep F.out λp hp=>B.cell (by have:=f.out.size;omega)) r;have C:=hid (zS (n:=n) (b:=b) r);obtain⟨x,G⟩:=xq (dw[k]);rw[G] at J K L C;obtain⟨v,T,O⟩:=x;dsimp only at J K L C;have r0:=(B.cell (p:=⟨w.heap.size,0,none⟩) R).trans Q;have hki:(k:Int)<(dw.length:Int):=by omega
   have hk0:(0:Int)<=(k:Int):=by omega
   have N:=B.size;have hgw:w.heap.size<wr.heap.size:=by omega
   have y:=hid (B.alloc N (.cells #[.int .i64 v,.int .u64 (T:Int),.bool O] 92));clear G B;by_cases c1:v<=b
   .have d:Hid (gN n dw (-1)=false):=hid (by rw[D.out,C.out,decide_eq_false (by omega)];rfl);go_wp2;go_ret;exact⟨by rw[u.out,d.out];rfl,f.out.trans (y.out.mono f.out.size)⟩
   by_cases c2:(n:Int)<=v
   .have d:Hid (gN n dw (-1)=false):=hid (by rw[D.out,C.out,decide_eq_false (show ¬ v<(n:Int) by omega)];simp);go_wp2;go_ret;exact⟨by rw[u.out,d.out];rfl,f.out.trans (y.out.mono f.out.size)⟩
   have d:Hid (gN n dw (-1)=gN n (dw.drop (k+1)) v):=hid (by rw[D.out,C.out,decide_eq_true (show b<v by omega),decide_eq_true (show v<(n:Int) by omega)];simp);go_wp2;go_roundw
   case rel=>exact⟨k+1,v,by omega,by go_num,rfl,d,y.out⟩
   case measure=>simp[intOf];omega
  have d:Hid (gN n dw (-1)=true):=hid (by rw[D.out,kkt (by omega)];rfl);have hend:decide ((k:Int)<(dw.length:Int))=false:=by rw[kqh];omega
  have hendn:decide (k<dw.length)=false:=by rw[kqh];exact r
  clear r M;go_wp2;go_ret;exact⟨by rw[u.out,d.out];rfl,f.out.trans (B.mono f.out.size)⟩
theorem jT:(prog.info? 79).map (·.size)=some 4:=by kernel_rfl
theorem Aq:(prog.info? 92).map (λi=>(i.zero,i.size,i.bytes))=some (some (.agg #[.int .i64 0,.int .u64 0,.bool false]),3,24):=by kernel_rfl
theorem wm(h:fn.results=#[.cell p 79])(tmps:Array Value){cs:Array Value}(hb:Bx W g t cs)(hs:cs.size=4)(hp:tmps.getD p undef=.pointer (some ⟨g,0,none⟩)):
 (results fn tmps).run prog W=.ok (.agg cs) W:=by
 have a:tmps[p]?.getD undef=.pointer (some ⟨g,0,none⟩):=by simpa using hp
 have b:(prog.info? 79).map (·.size)=some cs.size:=by rw[hs];exact jT
 have c:=run_loadVar_row W g t 79 cs (0,0) _ hb underlying79 rfl b;simp[results,h,a,asAddr,c]
theorem a8{q:Tmp}(h:fn.results=#[.cell p 79,.tmp q])(tmps:Array Value){cs:Array Value}{u:Value}(hb:Bx W g t cs)(hs:cs.size=4)(hp:tmps.getD p undef=.pointer (some ⟨g,0,none⟩))(hq:tmps.getD q undef=u):
 (results fn tmps).run prog W=.ok (.tuple #[.agg cs,u]) W:=by
 have a:tmps[p]?.getD undef=.pointer (some ⟨g,0,none⟩):=by simpa using hp
 have b:tmps[q]?.getD undef=u:=by simpa using hq
 have c:(prog.info? 79).map (·.size)=some cs.size:=by rw[hs];exact jT
 have d:=run_loadVar_row W g t 79 cs (0,0) _ hb underlying79 rfl c;simp[results,h,a,b,asAddr,d]
section
variable {ops:Array Oper} {rest:List Oper} {a:Act} {w:World} {Q:Exit->Act->World->Prop} {dst:Option Tmp} {type:TypeId} {pos:String} {after:Array Edge} {x y:Operand} {g:Nat} {old new:Array Value}
theorem stD(hb:Bx w g 79 old)(h:∀b,Hid (Bx b g 79 new)->Hid (gY w b g)->wpList prog ops Q rest (a.put dst undef) b)(hx:a.eval x=.pointer (some ⟨g,0,none⟩):=by rfl)(hy:a.eval y=.agg new:=by rfl)(ho:new.size=old.size:=by rfl)(hs:new.size=4:=by rfl)(h1:new.all (·.oneCell')=true:=by simp[Value.oneCell']):
 wpList prog ops Q ({ dst := dst,op := .store 79 x y,type := type,pos := pos,after := after,guard := none }::rest) a w:=
 ai rfl _ _ _ rfl g _ old new hx hy hb ho (by rw[hs];exact jT) h1 λb c d=>h b (hid c) (hid d)
theorem ldD(hb:Bx w g 79 old)(h:wpList prog ops Q rest (a.put dst (.agg old)) w)(hx:a.eval x=.pointer (some ⟨g,0,none⟩):=by rfl)(hs:old.size=4:=by rfl):
 wpList prog ops Q ({ dst := dst,op := .load 79 x,type := type,pos := pos,after := after,guard := none }::rest) a w:=
 kxc rfl _ _ rfl g hx 79 old (0,0) _ hb underlying79 (by rfl) (by rw[hs];exact jT) h
end
theorem mF(w:World)(A DA:Option Addr)(lf:Int)(dn:Bool)(n c m dc:Nat):∃W0,(w.alloc (.cells #[.slice A n c,.slice DA m dc,.int .i64 lf,.bool dn] 79)).alloc (.cells #[.slice none 0 0,.slice none 0 0,.int .i64 0,.bool false] 79)=W0/\Bx W0 w.heap.size 79 #[.slice A n c,.slice DA m dc,.int .i64 lf,.bool dn]/\Bx W0 (w.heap.size+1) 79 #[.slice none 0 0,.slice none 0 0,.int .i64 0,.bool false]/\Below w.heap.size w W0/\W0.heap.size=w.heap.size+1+1:=by have a:=Bx.new (w.alloc (.cells #[.slice A n c,.slice DA m dc,.int .i64 lf,.bool dn] 79)) 79 #[.slice none 0 0,.slice none 0 0,.int .i64 0,.bool false];rw[kqm] at a;exact⟨_,rfl,(Bx.new w 79 #[.slice A n c,.slice DA m dc,.int .i64 lf,.bool dn]).alloc (.cells #[.slice none 0 0,.slice none 0 0,.int .i64 0,.bool false] 79),a,((kqk w.heap.size w).alloc (kqa _) (.cells #[.slice A n c,.slice DA m dc,.int .i64 lf,.bool dn] 79)).alloc (by simp) (.cells #[.slice none 0 0,.slice none 0 0,.int .i64 0,.bool false] 79),by simp⟩
def OwnQ (w:World) (l:List Dw) (e:Ending) (w':World):Prop:=∃A c,e=.returned (.slice A l.length c)/\w'.ownsRow w.heap.size 92 3 (.slice A l.length c) l.length (l.flatMap Dw.cells)/\Below w.heap.size w w'
theorem uK(A:Option Addr)(l:List Dw)(c n:Nat)(w:World)(hn:l.length=n)(hm:n<=1000000)(hr:RdQ w w.heap.size A l):
 Calls prog 125 #[.slice A n c] w λe w'=>OwnQ w l e w':=by
 have C:=hid hr;have o:=hid hn;have t:=hid (ci Dw.cells 3 Dw.len l);have f:=λ(W:World)=>Lib.run_eql_slice_nil (P:=prog) (w:=W) 77 92 A n c 0 0 underlying77;obtain⟨z,v,k,m,h⟩:=kzw Aq;have B:=hid v;have q:=hid k;have r:=hid m;have p:=hid h;clear v k m h;cases A with
 | none =>
  have u:l=[]:=by
   cases l with
   | nil=>rfl
   | cons x l =>obtain⟨b,off,e,-⟩:=RdQ.at_ hr (show 0<(x::l).length by simp);cases e
  have y:=hid u;simp only[Option.isNone_none] at f;clear hr hn u;go_enter func125,ntmps125;go_wp2;go_ret;exact⟨none,0,by rw[y.out];rfl,by rw[y.out];exact kza _ _ _ _,kqk _ _⟩
 | some a =>simp only[Option.isNone_some] at f;clear hr hn;go_enter func125,ntmps125;go_wp2_with (at_builtin;refine bg _ (by rfl) _ _ 77 rfl w.heap.size 92 z _ 3 24 underlying77 B.out q.out r.out p.out rfl (by decide) (.slice (some ⟨w.heap.size,0,none⟩) 0 0) 0 [] (by rfl) (ft w _ _ _ (kqa _)) w.heap.size (some a) n _ (l.flatMap Dw.cells) (by rfl) (by rw[t.out,o.out]) (Rd.alloc C.out (kqa _) _) (di Dw.one _) (by unfold maxLen;omega) (by omega) (by simp) ?_;intro v1 wa d i;have g:=bU ((kqk w.heap.size w).alloc (kqa _) _) (by simp) (ft w w.heap.size 92 3 (kqa _)) i;simp only[kxd,kzv] at d;obtain⟨E,D,rfl⟩:=aS d;have j:=hid d;have s:=hid g;clear d g i);go_ret;exact⟨E,D,by rw[o.out];rfl,by rw[o.out];exact j.out,s.out⟩
def ls (w':World) (H:Nat) (d:Dv) (v:Value):Prop:=∃A c DA dc,v=.agg #[.slice A d.im.length c,.slice DA d.dw.length dc,.int .i64 d.left,.bool d.down]/\d.im.length<=c/\w'.ownsRow H 53 1 (.slice A d.im.length c) d.im.length (d.im.flatMap aa)/\w'.ownsRow H 92 3 (.slice DA d.dw.length dc) d.dw.length (d.dw.flatMap Dw.cells)
theorem DU(A DA:Option Addr)(im:List Nat)(dw:List Dw)(lf:Int)(dn:Bool)(n c m dc:Nat)(w:World)(hn:im.length=n)(hm:dw.length=m)(h0:0<n)(hn2:n<=1000000)(hm2:m<=1000000)(hr:RdW w w.heap.size A im)(hq:RdQ w w.heap.size DA dw):
 Calls prog 265 #[.agg #[.slice A n c,.slice DA m dc,.int .i64 lf,.bool dn]] w λe w'=>(∃v,e=.returned v/\ls w' w.heap.size ⟨im,dw,lf,dn⟩ v)/\Below w.heap.size w w':=by
 have D:=hid (λW (h:RdW W W.heap.size A im)=>pJ A im c n W.heap.size W hn h0 hn2 h (kqa _));have z:=hid (λW (h:RdQ W W.heap.size DA dw)=>uK DA dw dc m W hm hm2 h);unfold rM at D;unfold OwnQ at z;rw[hn] at D;rw[hm] at z;have HR:=hid hr;have HQ:=hid hq;have a:=(Bx.new w 79 #[.slice A n c,.slice DA m dc,.int .i64 lf,.bool dn]).alloc (.cells #[.slice none 0 0,.slice none 0 0,.int .i64 0,.bool false] 79);have d:=Bx.new (w.alloc (.cells #[.slice A n c,.slice DA m dc,.int .i64 lf,.bool dn] 79)) 79 #[.slice none 0 0,.slice none 0 0,.int .i64 0,.bool false];rw[kqm] at d;have B:=((kqk w.heap.size w).alloc (kqa _) (.cells #[.slice A n c,.slice DA m dc,.int .i64 lf,.bool dn] 79)).alloc (by simp) (.cells #[.slice none 0 0,.slice none 0 0,.int .i64 0,.bool false] 79);have F:((w.alloc (.cells #[.slice A n c,.slice DA m dc,.int .i64 lf,.bool dn] 79)).alloc (.cells #[.slice none 0 0,.slice none 0 0,.int .i64 0,.bool false] 79)).heap.size=w.heap.size+1+1:=by simp
 obtain⟨G,O⟩:=xq ((w.alloc (.cells #[.slice A n c,.slice DA m dc,.int .i64 lf,.bool dn] 79)).alloc (.cells #[.slice none 0 0,.slice none 0 0,.int .i64 0,.bool false] 79));rw[O] at a d B F;have X0:=hid a;have X1:=hid d;have E:=hid B;obtain⟨q0,q1,q2,q3,-,-,-,-,hg⟩:=a.c4;have C:w.heap.size<=G.heap.size:=by omega
 have L:w.heap.size+1<G.heap.size:=by omega
 have Jb:(prog.info? 79).map (·.size)=some (#[.slice A n c,.slice DA m dc,.int .i64 lf,.bool dn]:Array Value).size:=jT;have y:=hid hn;have N:=hid hm;clear hr hq a d B F hn hm;go_enter func265,ntmps265;go_wp2_with fail;clear O;refine (D.out G (HR.out.up E.out C)).mono ?_;rintro e w1 ⟨i,g,rfl,l,s⟩;have P:=hid l;have a:=X0.out.up s hg;have d:=X1.out.up s L;have Ja:=hid (E.out.trans (s.mono C));have hz1:=s.size;obtain⟨q0,q1,q2,q3,f0,f1,-,-,hg1⟩:=a.c4;have Z:=hid a;have X:=hid d;clear l s a d;go_wp2_with fail;have t:w.heap.size+1≠w.heap.size:=by omega
 have Jc:∀b,some b≠(Value.slice (some ⟨i,0,none⟩) n g).ownBlock->True:=λ_ _=>trivial;have U:=Ja.out.setCell (p:=⟨w.heap.size,0,none⟩) (kqa _) (.slice (some ⟨i,0,none⟩) n g);have a:=Z.out.set_ 0 (.slice (some ⟨i,0,none⟩) n g);have d:=X.out.far (p:=⟨w.heap.size,0,none⟩) t (.slice (some ⟨i,0,none⟩) n g);have o2:=au P.out (bD P.out hg).symm (p:=⟨w.heap.size,0,none⟩) (.slice (some ⟨i,0,none⟩) n g);have S:(w1.setCell ⟨w.heap.size,0,none⟩ (.slice (some ⟨i,0,none⟩) n g)).heap.size=w1.heap.size:=kz6 _ _ _;obtain⟨I,K⟩:∃I,w1.setCell ⟨w.heap.size,0,none⟩ (.slice (some ⟨i,0,none⟩) n g)=I:=⟨_,rfl⟩;rw[K] at U a d o2 S |-;have Y0:=hid a;have Y1:=hid d;have O2:=hid o2;have o:=hid U;have M:w.heap.size<I.heap.size:=by omega
 have x:w.heap.size+1<I.heap.size:=by omega
 clear K a d o2 U Jc;refine (z.out I (HQ.out.up o.out o.out.size)).mono ?_;rintro e Y ⟨j,q,rfl,r,f⟩;have V:=hid (o.out.trans (f.mono o.out.size));have O3:=hid (ak O2.out f (kqa _));have Q3:=hid r;have a:=Y0.out.up f M;have d:=Y1.out.up f x;have hz3:=f.size;obtain⟨q0,q1,q2,q3,f0,f1,-,-,hg3⟩:=(show Bx Y w.heap.size 79 #[.slice (some ⟨i,0,none⟩) n g,.slice DA m dc,.int .i64 lf,.bool dn] from a).c4;have Z0:=hid (show Bx (Y.setCell ⟨w.heap.size,1,none⟩ (.slice j m q)) w.heap.size 79 #[.slice (some ⟨i,0,none⟩) n g,.slice j m q,.int .i64 lf,.bool dn] from a.set_ 1 (.slice j m q));have Z1:=hid (d.far (p:=⟨w.heap.size,1,none⟩) t (.slice j m q));have Eq:=hid (V.out.setCell (p:=⟨w.heap.size,1,none⟩) (kqa _) (.slice j m q));have O4:=hid (au O3.out (bD O3.out hg).symm (p:=⟨w.heap.size,1,none⟩) (.slice j m q));have Q4:=hid (au Q3.out (bD Q3.out M).symm (p:=⟨w.heap.size,1,none⟩) (.slice j m q));clear r f a d;go_wp2_with (first
  | ((with_reducible refine aH 79 (.tmp 1) ?_);refine kxc rfl _ _ rfl w.heap.size (by rfl) 79 _ (0,0) _ Z0.out underlying79 (by rfl) jT ?_)
  | ((with_reducible refine aq 79 (.tmp 2) _ ?_);refine ai rfl _ _ _ rfl (w.heap.size+1) 79 #[.slice none 0 0,.slice none 0 0,.int .i64 0,.bool false] #[.slice (some ⟨i,0,none⟩) n g,.slice j m q,.int .i64 lf,.bool dn] (by rfl) (by rfl) Z1.out rfl Jb (by simp[Value.oneCell']) ?_;intro w9 J H;have T:=hid J;have u:=hid H;clear J H))
 have Q:(Y.setCell ⟨w.heap.size,1,none⟩ (.slice j m q)).grownBy w9 (some (w.heap.size+1)):=by have R:=u.out.2.2 (w.heap.size+1) (kqa _);exact⟨R.os,R.tape,R.output,by rw[u.out.1];exact kqa _,λk hk t=>u.out.2.1 k (λe=>t (by rw[e]))⟩
 refine kqr (v:=.agg #[.slice (some ⟨i,0,none⟩) n g,.slice j m q,.int .i64 lf,.bool dn]) (wm results265 _ T.out rfl rfl) rfl ⟨⟨_,rfl,some ⟨i,0,none⟩,g,j,q,by rw[y.out,N.out],?_,?_,?_⟩,u.out.below Eq.out (by omega)⟩
 .dsimp only;rw[y.out];exact co O4.out
 .dsimp only;rw[y.out];exact am (bp O4.out Q (.inr (bD O4.out L).symm)) C
 dsimp only;rw[N.out];exact am (bp Q4.out Q (.inr (bD Q4.out x).symm)) o.out.size
theorem gY.grown{w:World}(h:gY w w' g):w.grownBy w' (some g):=by have a:=h.2.2 g (kqa _);exact⟨a.os,a.tape,a.output,by rw[h.1];exact kqa _,λk _ b=>h.2.1 k (λe=>b (by rw[e]))⟩
theorem ao{w:World}{sz:Nat}{e:TypeId}{xs:List Value}(h:w.ownsRow H e sz v n xs)(ha:gY w w' g)(hg:g<H):w'.ownsRow H e sz v n xs:=bp h ha.grown (.inr (bD h hg).symm)
def dvB (d:Dv):Dv:=if d.left=0 then dvD d else { d with left:=dec d.left }
theorem mX(A DA:Option Addr)(im:List Nat)(dw:List Dw)(lf:Int)(dn:Bool)(n c m dc:Nat)(w:World)(hn:im.length=n)(hm:dw.length=m)(h0:0<n)(hn2:n<=1000000)(hm2:m<=1000000)(hlf : -1<=lf/\lf<=1000000)(hr:RdW w w.heap.size A im)(hq:RdQ w w.heap.size DA dw):
 Calls prog 226 #[.agg #[.slice A n c,.slice DA m dc,.int .i64 lf,.bool dn]] w λe w'=>(∃v,e=.returned (.tuple #[v,.bool (decide (lf≠0))])/\ls w' w.heap.size (dvB ⟨im,dw,lf,dn⟩) v)/\Below w.heap.size w w':=by
 have G:=hid (λW (h:RdW W W.heap.size A im) (h2:RdQ W W.heap.size DA dw)=>DU A DA im dw lf dn n c m dc W hn hm h0 hn2 hm2 h h2);unfold ls at G;rw[hn,hm] at G;have HR:=hid hr;have HQ:=hid hq;obtain⟨W0,Z,F,H,P,Eq⟩:=mF w A DA lf dn n c m dc;have X0:=hid F;have X1:=hid H;have D:=hid P;have d:=hid hn;have o:=hid hm;obtain⟨q0,q1,q2,q3,-,-,-,-,k⟩:=F.c4;have f:w.heap.size<=W0.heap.size:=by omega
 have j:w.heap.size+1<W0.heap.size:=by omega
 have s:w.heap.size+1≠w.heap.size:=by omega
 clear hr hq F H P Eq hn hm;go_enter func226,ntmps226;go_wp2_with fail;clear Z;refine (G.out W0 (HR.out.up D.out f) (HQ.out.up D.out f)).mono ?_;rintro e w1 ⟨⟨v,rfl,y,B,g,i,rfl,C,I,J⟩,x⟩;have u:=hid I;have q:=hid J;have F:=hid (X0.out.up x k);have H:=hid (X1.out.up x j);have E:=hid (D.out.trans (x.mono f));clear x I J;by_cases l:lf=0
 .subst l;have X:Hid (dvB ⟨im,dw,0,dn⟩=⟨im,dw,0,true⟩):=hid (by unfold dvB dvD;rw[if_pos rfl]);go_wp2_with (first
   | (((with_reducible refine aq 79 (.tmp 1) _ ?_);refine stD F.out ?_;intro Y z a);obtain⟨s0,s1,s2,s3,N,S,K,V,R⟩:=z.out.c4;have O:=hid (show Bx (Y.setCell ⟨w.heap.size,3,none⟩ (.bool true)) w.heap.size 79 #[.slice y n B,.slice g m i,.int .i64 0,.bool true] from z.out.set_ 3 (.bool true));have M:=hid ((a.out.bx H.out s).far (p:=⟨w.heap.size,3,none⟩) s (.bool true));have t:=hid ((a.out.below E.out (kqa _)).setCell (p:=⟨w.heap.size,3,none⟩) (kqa _) (.bool true));have Q:=hid (au (ao u.out a.out k) (bD (ao u.out a.out k) k).symm (p:=⟨w.heap.size,3,none⟩) (.bool true));have L:=hid (au (ao q.out a.out k) (bD (ao q.out a.out k) k).symm (p:=⟨w.heap.size,3,none⟩) (.bool true)))
   | ((with_reducible refine aH 79 (.tmp 1) ?_);refine ldD O.out ?_)
   | ((with_reducible refine aq 79 (.tmp 2) _ ?_);refine stD M.out ?_;intro w9 r b))
  refine kqr (v:=.tuple #[.agg #[.slice y n B,.slice g m i,.int .i64 0,.bool true],.bool false]) (a8 results226 _ r.out rfl rfl rfl) rfl ⟨⟨_,by rw[show decide ((0:Int)≠0)=false from rfl],by rw[X.out];exact⟨y,B,g,i,by rw[d.out,o.out],by rw[d.out];exact C,by rw[d.out];exact am (ao Q.out b.out j) f,by rw[o.out];exact am (ao L.out b.out j) f⟩⟩,b.out.below t.out (by omega)⟩
 have e0:(lf==0)=false:=by rw[kqj];exact l
 have ed:decide (lf≠0)=true:=by rw[kq0];exact l
 have T:=hid ed;by_cases U:0<lf
 .have X:Hid (dvB ⟨im,dw,lf,dn⟩=⟨im,dw,lf-1,dn⟩):=hid (by unfold dvB dec;rw[if_neg l];dsimp only;rw[if_pos U]);have hw1:IntKind.i64.wrap (lf-1)=lf-1:=kqv _ (by omega);clear l ed;go_wp2_with (first
   | (((with_reducible refine aq 79 (.tmp 1) _ ?_);refine stD F.out ?_;intro Y z a);obtain⟨s0,s1,s2,s3,N,S,K,V,R⟩:=z.out.c4;have O:=hid (show Bx (Y.setCell ⟨w.heap.size,2,none⟩ (.int .i64 (lf-1))) w.heap.size 79 #[.slice y n B,.slice g m i,.int .i64 (lf-1),.bool dn] from z.out.set_ 2 (.int .i64 (lf-1)));have M:=hid ((a.out.bx H.out s).far (p:=⟨w.heap.size,2,none⟩) s (.int .i64 (lf-1)));have t:=hid ((a.out.below E.out (kqa _)).setCell (p:=⟨w.heap.size,2,none⟩) (kqa _) (.int .i64 (lf-1)));have Q:=hid (au (ao u.out a.out k) (bD (ao u.out a.out k) k).symm (p:=⟨w.heap.size,2,none⟩) (.int .i64 (lf-1)));have L:=hid (au (ao q.out a.out k) (bD (ao q.out a.out k) k).symm (p:=⟨w.heap.size,2,none⟩) (.int .i64 (lf-1))))
   | ((with_reducible refine aH 79 (.tmp 1) ?_);refine ldD O.out ?_)
   | ((with_reducible refine aq 79 (.tmp 2) _ ?_);refine stD M.out ?_;intro w9 r b))
  refine kqr (v:=.tuple #[.agg #[.slice y n B,.slice g m i,.int .i64 (lf-1),.bool dn],.bool true]) (a8 results226 _ r.out rfl rfl rfl) rfl ⟨⟨_,by rw[T.out],by rw[X.out];exact⟨y,B,g,i,by rw[d.out,o.out],by rw[d.out];exact C,by rw[d.out];exact am (ao Q.out b.out j) f,by rw[o.out];exact am (ao L.out b.out j) f⟩⟩,b.out.below t.out (by omega)⟩
 have X:Hid (dvB ⟨im,dw,lf,dn⟩=⟨im,dw,lf,dn⟩):=hid (by unfold dvB dec;rw[if_neg l];dsimp only;rw[if_neg U]);clear l ed;go_wp2_with (first
  | (((with_reducible refine aq 79 (.tmp 1) _ ?_);refine stD F.out ?_;intro Y z a);obtain⟨s0,s1,s2,s3,N,S,K,V,R⟩:=z.out.c4;have O:=z;have M:=hid (a.out.bx H.out s);have t:=hid (a.out.below E.out (kqa _));have Q:=hid (ao u.out a.out k);have L:=hid (ao q.out a.out k))
  | ((with_reducible refine aH 79 (.tmp 1) ?_);refine ldD O.out ?_)
  | ((with_reducible refine aq 79 (.tmp 2) _ ?_);refine stD M.out ?_;intro w9 r b))
 refine kqr (v:=.tuple #[.agg #[.slice y n B,.slice g m i,.int .i64 lf,.bool dn],.bool true]) (a8 results226 _ r.out rfl rfl rfl) rfl ⟨⟨_,by rw[T.out],by rw[X.out];exact⟨y,B,g,i,by rw[d.out,o.out],by rw[d.out];exact C,by rw[d.out];exact am (ao Q.out b.out j) f,by rw[o.out];exact am (ao L.out b.out j) f⟩⟩,b.out.below t.out (by omega)⟩
def CP (d:Dv) (a:Int):Int:=if fa d=0 then (if 0<=a/\a<(d.im.length:Int) then 0 else 2) else 8
theorem Bt(h:fa d≠0):fa d=8:=by
 unfold fa at h |-;split
 .rename_i h1;rw[if_pos h1] at h;exact absurd rfl h
 rfl
theorem EM(A DA:Option Addr)(im:List Nat)(dw:List Dw)(lf:Int)(dn:Bool)(n c m dc:Nat)(a:Int)(w:World)(hn:im.length=n)(hm:dw.length=m)(hn2:n<=9223372036854775807)(hm2:m<=4611686018427387904)(hr:RdQ w w.heap.size DA dw):
 Calls prog 225 #[.agg #[.slice A n c,.slice DA m dc,.int .i64 lf,.bool dn],.int .i64 a] w λe w'=>e=.returned (.int .i64 (CP ⟨im,dw,lf,dn⟩ a))/\Below w.heap.size w w':=by
 have v:=hid (λW (h:RdQ W W.heap.size DA dw)=>kR A DA im dw lf dn n c m dc W hn hm hn2 hm2 h);have o:Hid (CP ⟨im,dw,lf,dn⟩ a=if fa ⟨im,dw,lf,dn⟩=0 then (if 0<=a/\a<(n:Int) then 0 else 2) else 8):=hid (by unfold CP;rw[<-hn]);have p:=hid (Bt (d:=⟨im,dw,lf,dn⟩));have u:=Bx.new w 79 #[.slice A n c,.slice DA m dc,.int .i64 lf,.bool dn];have k:=(kqk w.heap.size w).alloc (kqa _) (.cells #[.slice A n c,.slice DA m dc,.int .i64 lf,.bool dn] 79);have y:=hid hr;obtain⟨s,j⟩:=xq (w.alloc (.cells #[.slice A n c,.slice DA m dc,.int .i64 lf,.bool dn] 79));rw[j] at u k;have g:=hid k;have C:=hid u;obtain⟨q0,q1,q2,q3,-,-,-,-,D⟩:=u.c4;have i:w.heap.size<=s.heap.size:=by omega
 obtain⟨r,q⟩:∃r,fa ⟨im,dw,lf,dn⟩=r:=⟨_,rfl⟩;rw[q] at v o p;clear hr u k hn hm q;by_cases t:r=0
 .subst t;rw[if_pos rfl] at o;go_enter func225,ntmps225;go_wp2_with fail;clear j;refine (v.out s (y.out.up g.out i)).mono ?_;rintro e B ⟨rfl,b⟩;have x:=C.out.up b D;have f:=hid (g.out.trans (b.mono i));obtain⟨p0,-,-,-,-,-,-,-,-⟩:=x.c4;clear b x;by_cases h1:a<0
  .have l:Hid (CP ⟨im,dw,lf,dn⟩ a=2):=hid (by rw[o.out,if_neg (by omega)]);go_wp2;go_ret;exact⟨by rw[l.out];rfl,f.out⟩
  by_cases h2:(n:Int)<=a
  .have l:Hid (CP ⟨im,dw,lf,dn⟩ a=2):=hid (by rw[o.out,if_neg (by omega)]);go_wp2;go_ret;exact⟨by rw[l.out];rfl,f.out⟩
  have l:Hid (CP ⟨im,dw,lf,dn⟩ a=0):=hid (by rw[o.out,if_pos (by omega)]);go_wp2;go_ret;exact⟨by rw[l.out];rfl,f.out⟩
 have z:=p.out t;have l:Hid (CP ⟨im,dw,lf,dn⟩ a=8):=hid (by rw[o.out,if_neg t]);subst z;clear t;go_enter func225,ntmps225;go_wp2_with fail;clear j;refine (v.out s (y.out.up g.out i)).mono ?_;rintro e B ⟨rfl,b⟩;have f:=hid (g.out.trans (b.mono i));clear b;go_wp2;go_ret;exact⟨by rw[l.out];rfl,f.out⟩
def Cc (d:Dv) (H:Nat) (e:Ending) (w':World):Prop:=(fa d=0->∃g c,e=.returned (.tuple #[.slice (some ⟨g,0,none⟩) d.im.length c,.int .i64 0])/\w'.ownsRow H 53 1 (.slice (some ⟨g,0,none⟩) d.im.length c) d.im.length ((dvV d).flatMap aa))/\(fa d≠0->e=.returned (.tuple #[.slice none 0 0,.int .i64 (fa d)]))
theorem yV{x:List Nat}(hk:k<l.length):km x (l.take (k+1))=(km x (l.take k)).set l[k].a.toNat l[k].v:=by unfold km;rw[kqn hk,List.foldl_append];rfl
theorem pd(A DA:Option Addr)(im:List Nat)(dw:List Dw)(lf:Int)(dn:Bool)(n c m dc:Nat)(w:World)(hn:im.length=n)(hm:dw.length=m)(hn2:n<=9223372036854775807)(hm2:m<=4611686018427387904)(hi:RdW w w.heap.size A im)(hr:RdQ w w.heap.size DA dw):
 Calls prog 81 #[.agg #[.slice A n c,.slice DA m dc,.int .i64 lf,.bool dn]] w λe w'=>Cc ⟨im,dw,lf,dn⟩ w.heap.size e w'/\Below w.heap.size w w':=by
 have V:=hid (λW (h:RdQ W W.heap.size DA dw)=>kR A DA im dw lf dn n c m dc W hn hm hn2 hm2 h);have Q:=Bx.new w 79 #[.slice A n c,.slice DA m dc,.int .i64 lf,.bool dn];have t:=(kqk w.heap.size w).alloc (kqa _) (.cells #[.slice A n c,.slice DA m dc,.int .i64 lf,.bool dn] 79);have HR:=hid hr;have Eq:=hid hi;obtain⟨M,I⟩:=xq (w.alloc (.cells #[.slice A n c,.slice DA m dc,.int .i64 lf,.bool dn] 79));rw[I] at Q t;have s:=hid t;have X0:=hid Q;obtain⟨q0,q1,q2,q3,-,-,-,-,hg⟩:=Q.c4;have v:w.heap.size<=M.heap.size:=by omega
 have L:=hid hn;by_cases B:fa ⟨im,dw,lf,dn⟩=0
 .have F:=(ch _).1 (lN B);have hs:=(ae _).1 F.1;dsimp only at hs;have G:=F.2.2.2.2;dsimp only at G;have P:=hid (iQ G);rw[hn] at P;have D:=hid (λW (h:RdW W W.heap.size A im)=>pJ A im c n W.heap.size W hn (by omega) (by omega) h (kqa _));unfold rM at D;rw[hn] at D;have H:=hid B;have Ja:=hid (λk Z=>yV (x:=im) (l:=dw) (k:=k) Z);have Je:Hid (dvV ⟨im,dw,lf,dn⟩=km im (dw.take dw.length)):=hid (by rw[kzf];rfl);have hn3:n<=2048:=by omega
  rw[B] at V;subst hm;clear hr hi Q t hn B F hs G;go_enter func81,ntmps81;go_wp2_with fail;clear I;refine (V.out M (HR.out.up s.out v)).mono ?_;rintro e J ⟨rfl,f⟩;have x1:=X0.out.up f hg;have X1:=hid x1;have d:=hid (s.out.trans (f.mono v));obtain⟨R,X,-,-,-,-,-,-,Jf⟩:=x1.c4;clear f x1;go_wp2_with fail;refine (D.out J (Eq.out.up d.out d.out.size)).mono ?_;rintro e w2 ⟨g,S,rfl,j,y⟩;have E:=hid j;have Jc:=hid (d.out.trans (y.mono d.out.size));have x2:=X1.out.up y Jf;obtain⟨-,r1,-,-,-,-,-,-,hg2⟩:=x2.c4;have hz2:=y.size;clear j y x2 R X;go_wp2_with fail;go_loopw [19] (λi wr=>∃k:Nat,k<=dw.length/\i=.int .i64 k/\Hid (wr.ownsRow J.heap.size 53 1 (.slice (some ⟨g,0,none⟩) n S) n ((km im (dw.take k)).flatMap aa))/\Hid (Below w.heap.size w wr)) (λi _=>dw.length-(intOf i).toNat)
  case atStart=>exact⟨0,kqy _,rfl,E,Jc⟩
  obtain⟨k,Z,rfl,z,U⟩:=hrel;have hz:=U.out.size;by_cases q:k<dw.length
  .obtain ⟨b,o,rfl,hbb,R,X,p2⟩:=RdQ.at_ (HR.out.below U.out) q;have O:=hid (Ja.out k q);have T:=hid (P.out _ (kqp q));obtain⟨x,hx⟩:=xq (dw[k]);rw[hx] at R X p2 O T;obtain⟨xa,K,xf⟩:=x;dsimp only at R X p2 O T;obtain⟨a,rfl⟩:=kqz (show 0<=xa by have:=T.out.1;omega);rw[kqi] at O;have ha:(a:Int)<(n:Int):=T.out.2;have ha0:(0:Int)<=(a:Int):=by omega
   have han:a<n:=by omega
   have hki:(k:Int)<(dw.length:Int):=by omega
   have hk0:(0:Int)<=(k:Int):=by omega
   obtain⟨Y,hY⟩:=xq (km im (dw.take k));rw[hY] at z O;have hw1g:J.heap.size<=g:=fR z.out;have HN:=hid (show ((wr.setCell ⟨g,a,none⟩ (.int .u64 (K:Int))).alloc (.cells #[.int .i64 (a:Int),.int .u64 (K:Int),.bool xf] 92)).ownsRow J.heap.size 53 1 (.slice (some ⟨g,0,none⟩) n S) n ((Y.set a K).flatMap aa) by
    rw[li];exact ((z.out.stored a (.int .u64 (K:Int))).1).alloc _)
   have Jd:=hid ((U.out.setCell (p:=⟨g,a,none⟩) (by dsimp only;have:=d.out.size;omega) (.int .u64 (K:Int))).alloc (by rw[kz6];exact hz) (.cells #[.int .i64 (a:Int),.int .u64 (K:Int),.bool xf] 92));have hgw:g<wr.heap.size:=by have:=(z.out.lt g rfl).2;exact this
   obtain⟨u0,hu0⟩:∃u,wr.cell? ⟨g,a,none⟩=some u:=by have hc:=z.out.cellAt a (by omega);have hl:=z.out.1;rw[kql (by rw[hl];omega)] at hc;exact⟨_,hc⟩
   have hf0:=z.out.frozenAt a;clear hx hY;go_wp2;go_roundw
   case rel=>exact⟨k+1,by omega,by go_num,by rw[O.out];exact HN,Jd⟩
   case measure=>simp[intOf];omega
  have N:k=dw.length:=by omega
  have E:Hid (wr.ownsRow J.heap.size 53 1 (.slice (some ⟨g,0,none⟩) n S) n ((dvV ⟨im,dw,lf,dn⟩).flatMap aa)):=hid (by rw[Je.out,<-N];exact z.out);have hend:decide ((k:Int)<(dw.length:Int))=false:=by rw[kqh];omega
  have hendn:decide (k<dw.length)=false:=by rw[kqh];exact q
  clear q Z N;go_wp2;go_ret2;exact⟨⟨λ_=>⟨g,S,by rw[L.out];rfl,by rw[L.out];exact am E.out d.out.size⟩,λh=>absurd H.out h⟩,U.out⟩
 have H:=hid B;obtain⟨r,C⟩:∃r,fa ⟨im,dw,lf,dn⟩=r:=⟨_,rfl⟩;rw[C] at V B;have Jb:=hid C;have e1:(r != 0)=true:=by rw[kqu];exact B
 clear hr hi Q t hn hm B C;go_enter func81,ntmps81;go_wp2_with fail;clear I;refine (V.out M (HR.out.up s.out v)).mono ?_;rintro e J ⟨rfl,f⟩;have d:=hid (s.out.trans (f.mono v));clear f;go_wp2;go_ret2;exact⟨⟨λh=>absurd h H.out,λ_=>by rw[Jb.out];rfl⟩,d.out⟩
theorem AH(h:fX d=true)(h0:0<=a)(h1:a<(d.im.length:Int)):CP d a=0:=by unfold CP;rw[if_pos (fO h),if_pos ⟨h0,h1⟩]
theorem om(d:Dv):(dvB d).im=d.im/\(dvB d).dw=d.dw:=by unfold dvB dvD;split<;>exact⟨rfl,rfl⟩
theorem pR(h:d.left=0):dvB d=dvD d:=by unfold dvB;rw[if_pos h]
theorem Cz(hk:k<l.length)(R:List Dw)(hR:R=flQ a (l.take k)++l.drop k):R[k]? = some l[k]/\(flB a l[k]=l[k]->flQ a (l.take (k+1))++l.drop (k+1)=R)/\flQ a (l.take (k+1))++l.drop (k+1)=R.set k (flB a l[k])/\R.length=l.length:=by
 have b:(flQ a (l.take k)).length=k:=by unfold flQ;rw[kz2,kq3];omega
 have c:l.drop k=l[k]::l.drop (k+1):=kxq hk;have d:flQ a (l.take (k+1))=flQ a (l.take k)++[flB a l[k]]:=by unfold flQ;rw[kqn hk,kjy];rfl
 subst hR;refine⟨?_,λh=>?_,?_,?_⟩
 .rw[kxe (by omega),b,kvg,c];rfl
 .rw[d,h,c,kxs];rfl
 .rw[d,c,kk1 _ _ (by omega),b,kvg,kxs];rfl
 rw[kqs,b,kzj];omega
theorem xU(A DA:Option Addr)(im:List Nat)(dw:List Dw)(lf:Int)(dn:Bool)(n c m dc a:Nat)(w:World)(hn:im.length=n)(hm:dw.length=m)(hok:fX ⟨im,dw,lf,dn⟩=true)(ha:a<n)(hm2:m<=1000000)(hi:RdW w w.heap.size A im)(hr:RdQ w w.heap.size DA dw):
 Calls prog 182 #[.agg #[.slice A n c,.slice DA m dc,.int .i64 lf,.bool dn],.int .i64 (a:Int)] w λe w'=>(∃v,e=.returned (.tuple #[v,.int .i64 0])/\ls w' w.heap.size (dvF ⟨im,dw,lf,dn⟩ (a:Int)) v)/\Below w.heap.size w w':=by
 have J:=(ch _).1 hok;have hs:=(ae _).1 J.1;dsimp only at hs;have Jh : -1<=lf/\lf<=1000000:=⟨J.2.1,J.2.2.1⟩;have V:=J.2.2.2.2;dsimp only at V;have Jr:=hid (iQ V);rw[hn] at Jr;have Jq:=hid (λW (h:RdQ W W.heap.size DA dw)=>EM A DA im dw lf dn n c m dc (a:Int) W hn hm (by omega) (by omega) h);rw[AH hok (by omega) (by dsimp only;omega)] at Jq;have C:=hid (λW (h:RdW W W.heap.size A im) (I:RdQ W W.heap.size DA dw)=>mX A DA im dw lf dn n c m dc W hn hm (by omega) (by omega) (by omega) Jh h I);unfold ls at C;rw[(om _).1,(om _).2] at C;dsimp only at C;rw[hn,hm] at C;have HR:=hid hi;have HQ:=hid hr;obtain⟨W0,Kf,x0,x1,Jf,Jy⟩:=mF w A DA lf dn n c m dc;have X0:=hid x0;have X1:=hid x1;have Jd:=hid Jf;have z:=hid hn;have Eq:=hid hm;obtain⟨q0,q1,q2,q3,-,-,-,-,hg⟩:=x0.c4;have Jg:w.heap.size<=W0.heap.size:=by omega
 have Kd:w.heap.size+1<W0.heap.size:=by omega
 have Jm:w.heap.size+1≠w.heap.size:=by omega
 have hn3:n<=2048:=by omega
 clear hi hr x0 x1 Jf Jy hn hm J hs V hok;go_enter func182,ntmps182;go_wp2_with fail;clear Kf;refine (Jq.out W0 (HQ.out.up Jd.out Jg)).mono ?_;rintro e M ⟨rfl,G⟩;have x0:=X0.out.up G hg;have j:=hid (Jd.out.trans (G.mono Jg));have hz1:=G.size;obtain⟨p0,p1,p2,p3,-,-,-,-,F⟩:=x0.c4;have Y0:=hid x0;have Y1:=hid (X1.out.up G Kd);have q:w.heap.size+1<M.heap.size:=by omega
 clear x0 G q0 q1 q2 q3;go_wp2_with fail;refine (C.out M (HR.out.up j.out j.out.size) (HQ.out.up j.out j.out.size)).mono ?_;rintro e w2 ⟨⟨v,rfl,A1,T,t,r,rfl,Ji,Jj,Jc⟩,E⟩;have Ja:=hid Jj;have X:=hid Jc;have Z0:=hid (Y0.out.up E F);have Z1:=hid (Y1.out.up E q);have Z:=hid (j.out.trans (E.mono j.out.size));have Jv:=E.size;clear E Jj Jc p0 p1 p2 p3;by_cases H:lf=0
 .subst H;have HV:Hid (dvF ⟨im,dw,0,dn⟩ (a:Int)=⟨im,dw,0,true⟩):=hid (by unfold dvF dvD;rw[if_pos rfl]);rw[pR rfl,show decide ((0:Int)≠0)=false from rfl];unfold dvD;dsimp only;go_wp2_with (first
   | ((with_reducible refine aq 79 (.tmp 2) _ ?_);refine stD Z0.out ?_;intro w3 U0 f)
   | ((with_reducible refine aH 79 (.tmp 2) ?_);refine ldD U0.out ?_)
   | ((with_reducible refine aq 79 (.tmp 4) _ ?_);refine stD (f.out.bx Z1.out Jm) ?_;intro w9 P u))
  refine kqr (v:=.tuple #[.agg #[.slice A1 n T,.slice t m r,.int .i64 0,.bool true],.int .i64 0]) (a8 results182 _ P.out rfl rfl rfl) rfl ⟨⟨_,rfl,by
   rw[HV.out];exact⟨A1,T,t,r,by rw[z.out,Eq.out],by rw[z.out];exact Ji,by rw[z.out];exact am (ao (ao Ja.out f.out F) u.out q) j.out.size,by rw[Eq.out];exact am (ao (ao X.out f.out F) u.out q) j.out.size⟩⟩,u.out.below (f.out.below Z.out (kqa _)) (by omega)⟩
 have ed:decide (lf≠0)=true:=by rw[kq0];exact H
 have HV:Hid (dvF ⟨im,dw,lf,dn⟩ (a:Int)=⟨im,flQ (a:Int) dw,dec lf,dn⟩):=hid (by unfold dvF;rw[if_neg H]);have Jl:dvB ⟨im,dw,lf,dn⟩=⟨im,dw,dec lf,dn⟩:=by unfold dvB;rw[if_neg H]
 rw[ed,Jl];dsimp only;obtain⟨l2,Js⟩:=xq (dec lf);rw[Js] at HV |-;subst Eq;have Ke:=hid (λk (J:k<dw.length) R hR=>Cz (a:=(a:Int)) (l:=dw) (k:=k) J R hR);have Kg:Hid (flQ (a:Int) dw=flQ (a:Int) (dw.take dw.length)++dw.drop dw.length):=hid (by rw[kzf,kj5,kzr]);have Jt:Hid ((flQ (a:Int) dw).length=dw.length):=hid (by unfold flQ;rw[kz2]);clear Js Jl ed H Jh;go_wp2_with (first
  | (((with_reducible refine aq 79 (.tmp 2) _ ?_);refine stD Z0.out ?_;intro w3 U0 f);obtain⟨s0,s1,s2,s3,sf0,sf1,sf2,sf3,slt⟩:=U0.out.c4))
 have hw3:w.heap.size<w3.heap.size:=U0.out.lt;have U1:=hid (f.out.bx Z1.out Jm);have Kb:=hid (ao Ja.out f.out F);have Jz:=hid (ao X.out f.out F);have Ka:=hid (f.out.below Z.out (kqa _));clear Ja X Z Z0 Z1 f Jv;go_loopw [28] (λi wr=>∃(k:Nat) (R:List Dw),k<=dw.length/\i=.int .i64 k/\Hid (R=flQ (a:Int) (dw.take k)++dw.drop k)/\Hid (Bx wr w.heap.size 79 #[.slice A1 n T,.slice t dw.length r,.int .i64 l2,.bool dn])/\Hid (Bx wr (w.heap.size+1) 79 #[.slice none 0 0,.slice none 0 0,.int .i64 0,.bool false])/\Hid (wr.ownsRow M.heap.size 53 1 (.slice A1 n T) n (im.flatMap aa))/\Hid (wr.ownsRow M.heap.size 92 3 (.slice t dw.length r) dw.length (R.flatMap Dw.cells))/\Hid (Below w.heap.size w wr)) (λi _=>dw.length-(intOf i).toNat)
 case atStart=>exact⟨0,dw,kqy _,rfl,hid rfl,U0,U1,Kb,Jz,Ka⟩
 obtain⟨k,R,J,rfl,Je,V0,V1,VO,N,VB⟩:=hrel;have hz:=VB.out.size;obtain⟨v0,v1,v2,v3,-,-,-,-,hgw⟩:=V0.out.c4;by_cases D:k<dw.length
 .obtain ⟨g,c9,Jb⟩:=fj N.out (by omega);obtain⟨rfl,-,rfl⟩:t=some ⟨g,0,none⟩/\dw.length=dw.length/\r=c9:=by injection Jb with h1 I h3;exact⟨h1,I,h3⟩
  obtain⟨y1,y2,y3,y4⟩:=Ke.out k D R Je.out;have K:k<R.length:=by rw[y4];exact D
  obtain⟨b,o,he,hbb,p0,p1,p2⟩:=RdQ.at_ (show RdQ wr wr.heap.size (some ⟨g,0,none⟩) R from Rd.of_own N.out) K;obtain⟨rfl,rfl⟩:g=b/\0=o:=by injection he with he;injection he with h1 I h3;exact⟨h1,I⟩
  rw[kxd] at p0 p1 p2;rw[kql K,Option.some.injEq] at y1;rw[y1] at p0 p1 p2;have HM:=hid (Jr.out _ (kqp D));have Y2:=hid y2;have Y3:=hid y3;have Jp:=hid (show R[k]? = some dw[k] by rw[kql K,y1]);obtain⟨x,hx⟩:=xq (dw[k]);rw[hx] at p0 p1 p2 HM Y2 Y3 Jp;obtain⟨xa,s,B⟩:=x;dsimp only at p0 p1 p2 HM;obtain⟨d,rfl⟩:=kqz (show 0<=xa by have:=HM.out.1;omega);have hxn:d<2048:=by have:=HM.out.2;omega
  have hki:(k:Int)<(dw.length:Int):=by omega
  have hk0:(0:Int)<=(k:Int):=by omega
  have hgb:M.heap.size<=g:=fR N.out;have Jw:w.heap.size≠g:=by omega
  have Jo:w.heap.size+1≠g:=by omega
  have Ju:((d:Int)/8==(a:Int)/8)=decide (d/8=a/8):=by rw[kzq,kqw,kq0];omega
  clear hx Jb he y1 y2 y3 y4 K;by_cases L:d/8=a/8
  .have Q:Hid (flB (a:Int) ⟨(d:Int),s,B⟩=⟨(d:Int),s,true⟩):=hid (by unfold flB;rw[if_pos (show (d:Int)/8=(a:Int)/8 by omega)]);rw[decide_eq_true L] at Ju;have hf2:=N.out.frozenAt (k*3+2);have U:=hid (show ((wr.setCell ⟨g,k*3+2,none⟩ (.bool true)).alloc (.cells #[.int .i64 (d:Int),.int .u64 (s:Int),.bool B] 92)).ownsRow M.heap.size 92 3 (.slice (some ⟨g,0,none⟩) dw.length r) dw.length ((R.set k ⟨(d:Int),s,true⟩).flatMap Dw.cells) by
    rw[eF Dw.cells 3 Dw.len R k 2 (by omega) ⟨(d:Int),s,true⟩ (.bool true) (λy hy=>by rw[Jp.out] at hy;cases hy;rfl)];exact ((N.out.stored (k*3+2) (.bool true)).1).alloc _)
   have VON:=hid ((au VO.out (p:=⟨g,k*3+2,none⟩) (show (Value.slice A1 n T).ownBlock≠some g from λh=>by
    rcases fD VO.out N.out (by decide) with I|I
    .rw[h] at I;cases I
    exact I h) (.bool true)).alloc (.cells #[.int .i64 (d:Int),.int .u64 (s:Int),.bool B] 92))
   have S:=hid ((V0.out.far (p:=⟨g,k*3+2,none⟩) Jw (.bool true)).alloc (.cells #[.int .i64 (d:Int),.int .u64 (s:Int),.bool B] 92));have O:=hid ((V1.out.far (p:=⟨g,k*3+2,none⟩) Jo (.bool true)).alloc (.cells #[.int .i64 (d:Int),.int .u64 (s:Int),.bool B] 92));have Y:=hid ((VB.out.setCell (p:=⟨g,k*3+2,none⟩) (by dsimp only;omega) (.bool true)).alloc (by rw[kz6];exact hz) (.cells #[.int .i64 (d:Int),.int .u64 (s:Int),.bool B] 92));have HN:Hid (R.set k ⟨(d:Int),s,true⟩=flQ (a:Int) (dw.take (k+1))++dw.drop (k+1)):=hid (by rw[Y3.out,Q.out]);clear L;go_wp2;go_roundw
   case rel=>exact⟨k+1,R.set k ⟨(d:Int),s,true⟩,by omega,by go_num,HN,S,O,VON,U,Y⟩
   case measure=>simp[intOf];omega
  have Q:Hid (flB (a:Int) ⟨(d:Int),s,B⟩=⟨(d:Int),s,B⟩):=hid (by unfold flB;rw[if_neg (show ¬ (d:Int)/8=(a:Int)/8 by omega)]);rw[decide_eq_false L] at Ju;have U:=hid (N.out.alloc (.cells #[.int .i64 (d:Int),.int .u64 (s:Int),.bool B] 92));have VON:=hid (VO.out.alloc (.cells #[.int .i64 (d:Int),.int .u64 (s:Int),.bool B] 92));have S:=hid (V0.out.alloc (.cells #[.int .i64 (d:Int),.int .u64 (s:Int),.bool B] 92));have O:=hid (V1.out.alloc (.cells #[.int .i64 (d:Int),.int .u64 (s:Int),.bool B] 92));have Y:=hid (VB.out.alloc hz (.cells #[.int .i64 (d:Int),.int .u64 (s:Int),.bool B] 92));have HN:Hid (R=flQ (a:Int) (dw.take (k+1))++dw.drop (k+1)):=hid (Y2.out Q.out).symm;clear L;go_wp2;go_roundw
  case rel=>exact⟨k+1,R,by omega,by go_num,HN,S,O,VON,U,Y⟩
  case measure=>simp[intOf];omega
 have Jk:k=dw.length:=by omega
 have Kc:Hid (wr.ownsRow M.heap.size 92 3 (.slice t dw.length r) dw.length ((flQ (a:Int) dw).flatMap Dw.cells)):=hid (by
  have h:=N.out;rw[Je.out,Jk,<-Kg.out] at h;exact h)
 have hend:decide ((k:Int)<(dw.length:Int))=false:=by rw[kqh];omega
 have hendn:decide (k<dw.length)=false:=by rw[kqh];exact D
 clear D J Jk;go_wp2_with (first
  | ((with_reducible refine aH 79 (.tmp 2) ?_);refine ldD V0.out ?_)
  | ((with_reducible refine aq 79 (.tmp 4) _ ?_);refine stD V1.out ?_;intro w9 P u))
 have hgw1:w.heap.size+1<M.heap.size:=q;refine kqr (v:=.tuple #[.agg #[.slice A1 n T,.slice t dw.length r,.int .i64 l2,.bool dn],.int .i64 0]) (a8 results182 _ P.out rfl rfl rfl) rfl ⟨⟨_,rfl,by
  rw[HV.out];exact⟨A1,T,t,r,by rw[z.out,Jt.out],by rw[z.out];exact Ji,by rw[z.out];exact am (ao VO.out u.out q) j.out.size,by rw[Jt.out];exact am (ao Kc.out u.out q) j.out.size⟩⟩,u.out.below VB.out (by omega)⟩
end Go.Proofs.YtpcajamacpbjcaaGreat
