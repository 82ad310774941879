/- Entries of a change: what the program and the reference return. -/
import Derived.Test.YtpcajamacpbjcaaGreatZKEff
import Derived.Test.YtpcajamacpbjcaaGreatZKLy1
import Derived.Test.YtpcajamacpbjcaaGreatZKHead
import Derived.Test.YtpcajamacpbjcaaGreatZKRef15
import Derived.Test.YtpcajamacpbjcaaGreatZKMove
import Derived.Test.YtpcajamacpbjcaaGreatZKStg1
set_option maxHeartbeats 16000000
set_option maxRecDepth 100000
set_option linter.all false
namespace Go.Proofs.YtpcajamacpbjcaaGreat
open Lib (hid)
open Go.RowKit Go.Maps
variable {fn:Func}{a b w ws:Int}{ad:List Int}{H g k n:Nat}{p:Tmp}{t:TypeId}{v:Value}{W w':World}
open Go.Proofs.Tryz
def Do (x w:Int):Bool:=decide (16<=x)&&(decide (x<w)&&(decide (x<24)||decide (96<=x)))
def eD (ad:List Int) (w:Int):Nat->Bool
 | 0=>true
 | k+1=>eD ad w k&&(Do (ad[k]?.getD 0) w && !bT ad (ad[k]?.getD 0) k)
def ey (ad:List Int) (w:Int):Int:=if aj w=true then (if 32<ad.length then 4 else if eD ad w ad.length=true then 0 else 8) else 2
theorem oi(h:eD ad w n=true)(hk:k<=n):eD ad w k=true:=by
 induction n with
 | zero =>
  have:k=0:=by omega
  subst this;exact h
 | succ n ih =>
  rcases kq6 k (n+1) with a|a
  .simp only[eD,kqt] at h;exact ih h.1 (by omega)
  have:k=n+1:=by omega
  subst this;exact h
theorem xQ(h:aj w=false):ey ad w=2:=by simp[ey,h]
theorem t4(h:aj w=true)(h2:32<ad.length):ey ad w=4:=by simp[ey,h,h2]
theorem pt(h:aj w=true)(h2:ad.length<=32)(hk:eD ad w k=false)(hn:k<=ad.length):ey ad w=8:=by
 have a:eD ad w ad.length=false:=by
  cases c:eD ad w ad.length with
  | false=>rfl
  | true=>rw[oi c hn] at hk;cases hk
 have b:¬ 32<ad.length:=by omega
 simp[ey,h,a,b]
theorem rK(h:aj w=true)(h2:ad.length<=32)(h3:eD ad w ad.length=true):ey ad w=0:=by
 have a:¬ 32<ad.length:=by omega
 simp[ey,h,h3,a]
theorem tZ(h:ey ad w=0):aj w=true/\ad.length<=32/\eD ad w ad.length=true:=by
 unfold ey at h;split at h
 .split at h
  .simp at h
  split at h
  .exact ⟨by assumption,by omega,by assumption⟩
  simp at h
 simp at h
theorem qL(x w:Int):Do x w=true↔16<=x/\x<w/\(x<24\/96<=x):=by simp[Do]
theorem Da(h:eD ad w n=true)(hk:k<n):Do (ad[k]?.getD 0) w=true/\bT ad (ad[k]?.getD 0) k=false:=by have:=oi h (show k+1<=n from hk);simp only[eD,kqt,kx4] at this;exact this.2
theorem Aa(h:Do (ad[k]?.getD 0) w=false):eD ad w (k+1)=false:=by simp[eD,h]
theorem rR(h:bT ad (ad[k]?.getD 0) k=true):eD ad w (k+1)=false:=by simp[eD,h]
theorem pN(h0:eD ad w k=true)(h:Do (ad[k]?.getD 0) w=true)(h2:bT ad (ad[k]?.getD 0) k=false):eD ad w (k+1)=true:=by simp[eD,h0,h,h2]
def pZ (n:Int):Int:=if aj n=true then 0 else 2
theorem uQ{n:Int}(h:aj n=true):pZ n=0:=by simp[pZ,h]
theorem mE{n:Int}(h:aj n=false):pZ n=2:=by simp[pZ,h]
theorem nn(n:Int)(w:World):Calls prog 218 #[.int .i64 n] w λe w'=>e=.returned (.int .i64 (pZ n))/\w=w':=by
 by_cases d:n<256
 .have H:Hid (pZ n=2):=hid (mE (by simp[aj];omega));go_enter func218,ntmps218;go_wp2;go_ret;exact⟨by rw[H.out];rfl,rfl⟩
 have h3:256<=n:=by omega
 clear d;by_cases c:2048<n
 .have H:Hid (pZ n=2):=hid (mE (by simp[aj];omega));go_enter func218,ntmps218;go_wp2;go_ret;exact⟨by rw[H.out];rfl,rfl⟩
 have h4:n<=2048:=by omega
 clear c;by_cases a:n%8=0
 .have H:Hid (pZ n=0):=hid (uQ (by simp[aj];omega));have b:(n%8 != 0)=false:=by rw[kqr];exact a
  clear a;go_enter func218,ntmps218;go_wp2;go_ret;exact⟨by rw[H.out];rfl,rfl⟩
 have H:Hid (pZ n=2):=hid (mE (by simp[aj];omega));have b:(n%8 != 0)=true:=by rw[kqv];exact a
 clear a;go_enter func218,ntmps218;go_wp2;go_ret;exact⟨by rw[H.out];rfl,rfl⟩
theorem FG(x n:Int)(w:World):Calls prog 219 #[.int .i64 x,.int .i64 n] w λe w'=>e=.returned (.bool (Do x n))/\w=w':=by
 have H:Hid (∀b:Bool,(b=true↔16<=x/\x<n/\(x<24\/96<=x))->b=Do x n):=hid λb h=>by rw[kzg,qL];exact h
 go_enter func219,ntmps219;go_wp2_with fail
 all_goals
  go_ret;exact⟨jj (H.out _ (by simp;omega)),rfl⟩
def Dt (B:Nat) (w:World) (g:Nat) (ad:List Int) (k:Nat):Prop:=
 (k=0/\Bx w g 278 #[.map none])\/(∃b,B<=b/\Bx w g 278 #[.map (some b)]/\w.ownsMap prog 3 (plainElem prog 4) b k (fk ad k))
def Hf (B:Nat) (g:Nat) (ad:List Int) (k:Nat) (r:Bool) (w:World) (e:Ending) (w':World):Prop:=e=.returned (.bool r)/\Dt B w' g ad (k+1)/\Below B w w'/\(∀h t cs,Bx w h t cs->h≠g->Bx w' h t cs)
theorem add_c(B g:Nat)(ad:List Int)(k:Nat)(x:Int)(w:World)(hx:ad[k]?.getD 0=x)(hxb : -9223372036854775808<=x/\x<=9223372036854775807)(hk:k<=1000000)(hBg:B<=g)(hs:Dt B w g ad k):
 Calls prog 220 #[.pointer (some ⟨g,0,none⟩),.int .i64 x] w (Hf B g ad k (!bT ad x k) w):=by
 have o:(Lit.int .i64 x).wf=true:=by simp[Lit.wf,IntKind.min,IntKind.max,IntKind.signed,IntKind.bits];omega
 have y:=hid (keyOf_int_mk (P:=prog) underlying3 o);have HX:=hid hx;have F:=hid (show fk ad (k+1)=(fk ad k).put (.int .i64 x) (.lit (.bool true)) by simp only[fk,hx]);have m:=hid (ni ad x k);obtain⟨r,I⟩:=xq (bT ad x k);rw[I] at m |-;clear hx o I hxb;rcases hs with⟨C,l⟩|⟨b,u,l,d⟩
 .subst C;obtain⟨L,c1,K⟩:=l.c1;have q:=λW:World=>run_eql_map_nil (P:=prog) W 161 3 4 none underlying161;have e:=hid l;clear l;have hmm:=@run_makeMap prog;have i:((w.setCell ⟨g,0,none⟩ (.map (some w.heap.size))).alloc (Obj.map #[] 0)).ownsMap prog 3 (plainElem prog 4) w.heap.size 0 (fk ad 0):=by have:=World.ownsMap_made (H:=Unit) (w.setCell ⟨g,0,none⟩ (.map (some w.heap.size))) prog 3 (plainElem prog 4);rwa [kz6] at this
  have A:=iS i nT underlying161 underlying4 (mR _) y.out m.out;have n:=hid i;have s:=hid (((e.out.set_ 0 (.map (some w.heap.size)))).alloc (Obj.map #[] 0));have D:=hid ((((kqk B w).setCell (p:=⟨g,0,none⟩) hBg (.map (some w.heap.size)))).alloc (by simp;omega) (Obj.map #[] 0));clear i;go_enter func220,ntmps220;go_wp2_with (at_mapUpdate;refine wpList_mapUpdate_own _ rfl _ _ _ 161 rfl 3 4 nT underlying161 _ w.heap.size 0 _ rfl n.out (by simp[maxLen]) _ _ _ rfl rfl y.out (.lit (.bool true)) [] (plainElem_bool underlying4 true) ?_;intro J a c);go_ret;have f:=D.out.grown c (by simp;omega) (λj z=>by cases z;omega);refine⟨rfl,.inr ⟨w.heap.size,by omega,s.out.grown c (gu s.out n.out),by rw[F.out];exact a⟩,f,λh t cs v E=>?_⟩;have G:=(v.far (p:=⟨g,0,none⟩) E (.map (some w.heap.size))).alloc (Obj.map #[] 0);exact G.grown c (gu G n.out)
 obtain⟨L,c1,K⟩:=l.c1;have A:=iS d nT underlying161 underlying4 (mR w) y.out m.out;have q:=λW:World=>run_eql_map_nil (P:=prog) W 161 3 4 (some b) underlying161;have e:=hid l;clear l;go_enter func220,ntmps220;go_wp2_with (at_mapUpdate;refine wpList_mapUpdate_own _ rfl _ _ _ 161 rfl 3 4 nT underlying161 _ b k _ rfl d (by unfold maxLen;omega) _ _ _ rfl rfl y.out (.lit (.bool true)) [] (plainElem_bool underlying4 true) ?_;intro J a c);go_ret;have f:Below B w J:=(kqk B w).grown c (by omega) (λj z=>by cases z;exact u);exact⟨rfl,.inr ⟨b,u,e.out.grown c (gu e.out d),by rw[F.out];exact a⟩,f,λh t cs v _=>v.grown c (gu v d)⟩
theorem Fw{l:List En}(ho:∀e∈l,e.ok)(hk:k<l.length): -9223372036854775808<=(au l)[k]?.getD 0/\(au l)[k]?.getD 0<=9223372036854775807:=by rw[dY l k hk];have:=ho l[k] (kqq hk);exact⟨this.1,this.2.1⟩
theorem wM(A:Option Addr)(l:List En)(c n:Nat)(ws:Int)(w:World)(hn:l.length=n)(hm:n<=9223372036854775807)(hr:RdE w w.heap.size A l)(ho:∀e∈l,e.ok):
 Calls prog 170 #[.slice A n c,.int .i64 ws] w λe w'=>e=.returned (.int .i64 (ey (au l) ws))/\Below w.heap.size w w':=by
 subst hn;have W:=hid hr;have V:=hid ho;clear hr ho;cases u:aj ws
 .have G:=hid (xQ (ad:=au l) u);have I:=hid (mE u);clear u;go_enter func170,ntmps170;go_wp2_with fail;refine (nn ws w).mono ?_;rintro e K ⟨rfl,rfl⟩;rw[I.out];go_wp2;go_ret;exact⟨by rw[G.out];rfl,kqk _ _⟩
 have J:=hid u;have I:=hid (uQ u);clear u;by_cases C:32<l.length
 .have G:=hid (t4 (ad:=au l) J.out (by rw[aT];exact C));go_enter func170,ntmps170;go_wp2_with fail;refine (nn ws w).mono ?_;rintro e K ⟨rfl,rfl⟩;rw[I.out];go_wp2;go_ret;exact⟨by rw[G.out];rfl,kqk _ _⟩
 have q:l.length<=32:=by omega
 have hgt:decide ((32:Int)<(l.length:Int))=false:=by rw[kqc];omega
 clear C;go_enter func170,ntmps170;go_wp2_with fail;refine (nn ws w).mono ?_;rintro e K ⟨rfl,rfl⟩;rw[I.out];go_wp2_with fail;go_loopw [19] (λi wr=>∃k:Nat,k<=l.length/\i=.int .i64 k/\eD (au l) ws k=true/\Dt w.heap.size wr w.heap.size (au l) k/\Below w.heap.size w wr) (λi _=>l.length-(intOf i).toNat)
 case atStart=>exact⟨0,kqy _,rfl,rfl,.inl ⟨rfl,Bx.new w _ _⟩,(kqk _ _).alloc (kqa _) _⟩
 obtain⟨k,hk,rfl,g,s,y⟩:=hrel;have T:=y.size;by_cases f:k<l.length
 .obtain ⟨b,D,rfl,S,H,t⟩:=W.out.at_ f;replace H:=(y.cell (p:=⟨b,D+k*2,none⟩) S).trans H;replace t:=(y.cell (p:=⟨b,D+k*2+1,none⟩) S).trans t;have r:=Fw V.out f;rw[<-dY l k f] at H;obtain⟨x,M⟩:=xq ((au l)[k]?.getD 0);rw[M] at H r;have Q:=hid g;have F:=hid M;have P:=hid r;have ik1:(0:Int)<=(k:Int):=by omega
  have ik2:(k:Int)<(l.length:Int):=by omega
  have o:Dt w.heap.size (wr.alloc (.cells #[.int .i64 x,.int .u64 (l[k].v:Int)] 89)) w.heap.size (au l) k:=by
   rcases s with⟨t,R⟩|⟨m,t,R,U⟩
   .exact .inl ⟨t,R.alloc _⟩
   exact .inr ⟨m,t,R.alloc _,U.alloc _⟩
  have O:=hid o;clear g M s o r;go_wp2_with fail;refine (FG x ws _).mono ?_;rintro e K ⟨rfl,rfl⟩;cases h:Do x ws
  .have d:=hid (pt J.out (by rw[aT];exact q) (k:=k+1) (Aa (by rw[F.out];exact h)) (by rw[aT];exact f));clear h;go_wp2;go_ret;exact⟨by rw[d.out];rfl,y.alloc T _⟩
  have L:=hid h;clear h;go_wp2_with fail;refine (add_c w.heap.size w.heap.size (au l) k x _ F.out P.out (by omega) (kqa _) O.out).mono ?_;rintro e K ⟨rfl,a,N,-⟩;have E:=(y.alloc T (.cells #[.int .i64 x,.int .u64 (l[k].v:Int)] 89)).trans N;cases j:bT (au l) x k
  .have z:=hid (pN Q.out (by rw[F.out];exact L.out) (by rw[F.out];exact j));clear j;have B:=hid a;clear a;go_wp2;go_roundw
   case rel=>exact⟨k+1,by omega,by go_num,z.out,B.out,E⟩
   case measure=>simp[intOf];omega
  have d:=hid (pt J.out (by rw[aT];exact q) (k:=k+1) (rR (by rw[F.out];exact j)) (by rw[aT];exact f));clear j a;go_wp2;go_ret;exact⟨by rw[d.out];rfl,E⟩
 obtain rfl:k=l.length:=by omega
 have G:=hid (rK J.out (by rw[aT];exact q) (by rw[aT];exact g));clear s g;go_wp2;go_ret;exact⟨by rw[G.out];rfl,y⟩
def cE:List En->List Nat
 | []=>[]
 | e::l=>e.a.toNat::e.v::cE l
def d6 (l:List En) (ws:Int):List Nat:=if ey (au l) ws=0 then cE l else []
theorem ij(l:List En):(cE l).length=2*l.length:=by
 induction l with
 | nil=>rfl
 | cons e l ih=>simp only[cE,kq0,ih];omega
theorem xx(l:List En)(e:En):cE (l++[e])=cE l++[e.a.toNat,e.v]:=by
 induction l with
 | nil=>rfl
 | cons x l ih=>simp[cE,ih]
def CK (H:Nat) (l:List En) (ws:Int) (e:Ending) (w':World):Prop:=∃A c,e=.returned (.tuple #[.slice A (d6 l ws).length c,.int .i64 (ey (au l) ws)])/\w'.ownsRow H 53 1 (.slice A (d6 l ws).length c) (d6 l ws).length ((d6 l ws).flatMap ag)
theorem rx{M:Nat}{l:List En}(h0:ey (au l) ws=0)(hn:n=2*l.length)(h:w'.ownsRow M 53 1 v n ((cE l).flatMap ag))(hH:H<=M):CK H l ws (.returned (.tuple #[v,.int .i64 0])) w':=by
 have a:d6 l ws=cE l:=by simp[d6,h0]
 have b:(d6 l ws).length=n:=by rw[a,ij,hn]
 obtain⟨A,c,rfl⟩:=aO h;refine⟨A,c,by rw[b,h0],?_⟩;rw[b,a];exact ao h hH
theorem EI{l:List En}{r:Int}(hr:ey (au l) ws=r)(h0:r≠0):CK H l ws (.returned (.tuple #[.slice none 0 0,.int .i64 r])) w':=by
 subst hr;have:d6 l ws=[]:=by simp[d6,h0]
 exact⟨none,0,by rw[this];rfl,by rw[this];exact kza _ _ _ _⟩
theorem BL(w:World)(cs:List Value)(t:TypeId)(h:w.heap.size=H):∀j u,cs[j]? = some u->(w.alloc (.cells cs.toArray t)).cell? ((⟨H,0,none⟩:Addr).add j)=some u:=by subst h;exact cI w cs t
theorem pG(A:Option Addr)(l:List En)(c n:Nat)(ws:Int)(w:World)(hn:l.length=n)(hm:n<=9223372036854775807)(q:RdE w w.heap.size A l)(ho:∀e∈l,e.ok):
 Calls prog 124 #[.slice A n c,.int .i64 ws] w λe w'=>CK w.heap.size l ws e w'/\Below w.heap.size w w':=by
 subst hn;have W:=hid q;have U:=hid ho;clear q ho;obtain⟨i0,T,f,C,D⟩:=kzw mG;have Z:=hid T;have P:=hid f;have N:=hid C;have I:=hid D;clear T f C D;go_enter func124,ntmps124;go_wp2_with fail;refine (wM A l c l.length ws w rfl hm W.out U.out).mono ?_;rintro e F ⟨rfl,m⟩;have f:=m.size;by_cases g:ey (au l) ws=0
 .obtain ⟨V,M,o⟩:=tZ g;rw[aT] at M;have HE:=hid g;have X:=hid o;have hw2:=((aa ws).1 V).2.1;rw[g];clear g o V;go_wp2_with fail;go_loopw [7,18] (λv i wr=>∃k:Nat,k<=l.length/\i=.int .i64 k/\wr.ownsRow F.heap.size 53 1 v (2*k) ((cE (l.take k)).flatMap ag)/\Below F.heap.size F wr) (λ_ i _=>l.length-(intOf i).toNat)
  case atStart=>exact⟨0,kqy _,rfl,kza _ _ _ _,kqk _ _⟩
  obtain⟨k,hk,rfl,d,G⟩:=hrel;have hz:=G.size;by_cases j:k<l.length
  .obtain ⟨b,E,rfl,S,g,y⟩:=W.out.at_ j;have z:=m.trans (G.mono f);replace g:=(z.cell (p:=⟨b,E+k*2,none⟩) S).trans g;replace y:=(z.cell (p:=⟨b,E+k*2+1,none⟩) S).trans y;have h:=(qL _ _).1 (Da X.out (show k<(au l).length by rw[aT];exact j)).1;rw[dY l k j] at h;have B:=(U.out l[k] (kqq j)).2.2;have R:Hid (∀x v,l[k].a=x->l[k].v=v->0<=x->(cE (l.take (k+1))).flatMap ag=(cE (l.take k)).flatMap ag++[.int .u64 x,.int .u64 (v:Int)]):=hid λx v y h2 Y=>by
    rw[kqp j,xx,kxk,y,h2];simp only[kzx,List.flatMap_nil,ag,kzs,kzm,kz1];rw[kj9 Y]
   obtain⟨x,H⟩:=xq (l[k].a);obtain⟨v,J⟩:=xq (l[k].v);have t:=R.out x v H J;rw[H] at g h;rw[J] at y B;obtain⟨m1,m2,-⟩:=h;have K:0<=x:=by omega
   have hx1:x<=2048:=by omega
   have Q:=hid (t K);have hv0:(0:Int)<=(v:Int):=by omega
   have ik1:(0:Int)<=(k:Int):=by omega
   have ik2:(k:Int)<(l.length:Int):=by omega
   clear R t H J m1 m2 B;go_wp2_with (at_builtin;refine kze _ rfl _ _ 22 rfl F.heap.size 53 i0 _ 1 8 underlying22 Z.out P.out N.out I.out rfl (by decide) _ _ _ rfl ((d.alloc _).alloc _) ⟨_,0,none⟩ 2 2 [.int .u64 x,.int .u64 (v:Int)] rfl rfl (BL _ _ _ (kqm _ _)) (by simp[Value.oneCell']) (by unfold maxLen;omega) (by omega) (by simp;omega) ?_;intro v1 w1 s O _);have L:=aE (G.alloc hz (.cells #[.int .i64 x,.int .u64 (v:Int)] 89)) (by simp;omega) (d.alloc _) O;go_roundw
   case rel=>exact⟨k+1,by omega,by go_num,by rw[Q.out,show 2*(k+1)=2*k+2 by omega];exact s,L⟩
   case measure=>simp[intOf];omega
  obtain rfl:k=l.length:=by omega
  rw[kzl] at d;go_wp2;go_ret2;exact⟨rx HE.out rfl d f,m.trans (G.mono f)⟩
 have HX:=hid g;obtain⟨r,q⟩:=xq (ey (au l) ws);have hn1:(r==0)=false:=by rw[<-q,kqi];exact g
 have hn2:(r != 0)=true:=by rw[<-q,kqv];exact g
 have u:=hid q;rw[q];clear g q;go_wp2;go_ret2;exact⟨EI u.out (by rw[<-u.out];exact HX.out),m⟩
def lU (cs:Array Value) (ad:List Int) (n:Nat):Prop:=cs.size=256/\∀i,i<256->cs[i]? = some (.bool (aJ ad (8*(i:Int)) n))
theorem Cb{cs:Array Value}{x:Nat}(h:lU cs ad k)(hx:ad[k]?.getD 0=(x:Int)):lU (cs.setIfInBounds (x/8) (.bool true)) ad (k+1):=by
 refine⟨by rw[kkx];exact h.1,λi a=>?_⟩;rw[kx6];simp only[aJ,hx];by_cases e:x/8=i
 .subst e;rw[if_pos rfl,if_pos (by rw[h.1];exact a)];have:((x:Int)/8==8*((x/8:Nat):Int)/8)=true:=by rw[kqw];omega
  rw[this,kvc]
 have:((x:Int)/8==8*(i:Int)/8)=false:=by rw[kqi];omega
 rw[if_neg e,h.2 i a,this,kkl]
def j8:Array Value:=Array.replicate 256 (.bool false)
theorem vZ(w:World):(zeroValue 156).run prog w=.ok (.agg j8) w:=by kernel_rfl
theorem lines0(ad:List Int):lU j8 ad 0:=⟨by simp[j8],λi a=>by simp[j8,a,aJ]⟩
def LnRes (ad:List Int) (n:Nat) (e:Ending):Prop:=∃cs,e=.returned (.agg cs)/\lU cs ad n
theorem I2(A:Option Addr)(l:List En)(c n:Nat)(w:World)(hn:l.length=n)(hm:n<=9223372036854775807)(hr:RdE w w.heap.size A l)(ho:∀k,k<l.length->0<=(au l)[k]?.getD 0/\(au l)[k]?.getD 0<2048):
 Calls prog 181 #[.slice A n c] w λe w'=>LnRes (au l) n e/\Below w.heap.size w w':=by
 subst hn;have H:=hid hr;have G:=hid ho;clear hr ho;have hzv:=vZ;go_enter func181,ntmps181;go_wp2_with fail;go_loopw [7] (λi wr=>∃(k:Nat) (cs:Array Value),k<=l.length/\i=.int .i64 k/\lU cs (au l) k/\Bx wr w.heap.size 156 cs/\Below w.heap.size w wr) (λi _=>l.length-(intOf i).toNat)
 case atStart=>exact⟨0,_,kqy _,rfl,lines0 _,Bx.new w _ _,(kqk _ _).alloc (kqa _) _⟩
 obtain⟨k,cs,hk,rfl,a,d,s⟩:=hrel;have hz:=s.size;by_cases m:k<l.length
 .obtain ⟨b,r,rfl,D,t,C⟩:=H.out.at_ m;replace t:=(s.cell (p:=⟨b,r+k*2,none⟩) D).trans t;replace C:=(s.cell (p:=⟨b,r+k*2+1,none⟩) D).trans C;obtain⟨E,F⟩:=G.out k m;rw[<-dY l k m] at t;obtain⟨x,u⟩:=kq2 E;rw[u] at t E F;have I:=hid u;have z:x/8<256:=by omega
  have g:=d.cell (x/8);rw[a.2 _ z] at g;have hfr:=d.frozen (x/8);have hlt2:=d.lt;have o:=hid a;have f:=hid d;have ik1:(0:Int)<=(k:Int):=by omega
  have ik2:(k:Int)<(l.length:Int):=by omega
  clear u a d;go_wp2_with fail;refine⟨⟨k+1,_,by omega,by go_num,Cb o.out I.out,(f.out.set_ (x/8) (.bool true)).alloc _,(s.setCell (p:=⟨w.heap.size,x/8,none⟩) (kqa _) _).alloc (by simp;omega) _⟩,?_⟩;simp[intOf];omega
 obtain rfl:k=l.length:=by omega
 have q:(prog.info? 156).map (·.size)=some cs.size:=by rw[a.1];kernel_rfl
 have y:cs.all (·.oneCell')=true:=by rw[kk8];intro i q;have h:=a.2 i (by have:=a.1;omega);rw[kjl q] at h;injection h with h;rw[h];rfl
 have j:=hid (qd d);have B:=jK d;have o:=hid a;have f:=hid d;clear a d;go_wp2_with (first
  | (refine kxh rfl _ _ rfl w.heap.size (by rfl) 156 cs (0,0) _ f.out underlying156 (by rfl) q ?_)
  | (refine kjt rfl _ _ _ rfl w.heap.size 0 cs (by rfl) (by rfl) B q y ?_;rw[j.out]))
 refine kqo (v:=.agg cs) (results_cell_row rfl _ _ w.heap.size _ cs (0,0) _ (by rfl) f.out underlying156 (by rfl) q) rfl ⟨⟨cs,rfl,o.out⟩,s⟩
open Go.RowKit
structure Dw where
 a:Int
 v:Nat
 f:Bool
 deriving DecidableEq,Inhabited
variable {l:List Dw}
def Dw.cells (x:Dw):List Value:=[.int .i64 x.a,.int .u64 (x.v:Int),.bool x.f]
theorem Dw.len(x:Dw):x.cells.length=3:=rfl
theorem Dw.one:∀x:Dw,∀u∈x.cells,u.oneCell'=true:=λx u a=>by unfold Dw.cells at a;simp only[kqx,kzf,or_false] at a;rcases a with rfl|rfl|rfl<;>rfl
structure Dv where
 im:List Nat
 dw:List Dw
 left:Int
 down:Bool
 deriving DecidableEq,Inhabited
variable {d:Dv}
def iM (n:Nat):List Dw->Int->Bool
 | [],_=>true
 | e::l,b=>decide (b<e.a)&&(decide (e.a<(n:Int))&&iM n l e.a)
def eY (d:Dv):Bool:=aj (d.im.length:Int)&&(decide (-1<=d.left)&&(decide (d.left<=1000000)&&((!d.down||d.left==0)&&iM d.im.length d.dw (-1))))
def fh (d:Dv):Int:=if eY d=true then 0 else 8
def ku (x:List Nat) (l:List Dw):List Nat:=l.foldl (λx e=>x.set e.a.toNat e.v) x
def dvV (d:Dv):List Nat:=ku d.im d.dw
def dec (l:Int):Int:=if 0<l then l-1 else l
def stQ:List Dw->Int->Nat->List Dw
 | [],a,v=>[⟨a,v,false⟩]
 | e::l,a,v=>if e.a<a then e::stQ l a v else if e.a=a then ⟨a,v,false⟩::l else ⟨a,v,false⟩::e::l
def flB (a:Int) (e:Dw):Dw:=if e.a/8=a/8 then { e with f:=true } else e
def flQ (a:Int) (l:List Dw):List Dw:=l.map (flB a)
def fnI (x:List Nat) (l:List Dw):List Nat:=ku x (l.filter (·.f))
def fnQ (l:List Dw):List Dw:=l.filter λe=>!e.f
def dvD (d:Dv):Dv:={ d with down:=true }
def dvS (d:Dv) (a:Int) (v:Nat):Dv:=if d.left=0 then dvD d else { d with dw:=stQ d.dw a v,left:=dec d.left }
def dvF (d:Dv) (a:Int):Dv:=if d.left=0 then dvD d else { d with dw:=flQ a d.dw,left:=dec d.left }
def dvN (d:Dv):Dv:=if d.left=0 then dvD d else { d with im:=fnI d.im d.dw,dw:=fnQ d.dw,left:=dec d.left }
def ou (d:Dv) (l:List En):Dv:=l.foldl (λd e=>dvS d e.a e.v) d
def ld (ad:List Int) (d:Dv):Nat->Dv
 | 0=>d
 | k+1=>if aJ ad (8*(k:Int)) ad.length=true then dvF (ld ad d k) (8*(k:Int)) else ld ad d k
def rpP (d:Dv) (l:List En):Dv:=dvN (ld (au l) (ou d l) 256)
def lsE (a:Int):List Nat->List En
 | []=>[]
 | v::l=>⟨a,v⟩::lsE (a+1) l
def cmW (l:List En):Nat:=(aY 14695981039346656037 (cE l)%288230376151711744)*64+l.length
def atM (d:Dv) (l:List En):Dv:=if l=[] then d else rpP (rpP (rpP (rpP d (lsE 32 (cE l))) [⟨24,cmW l⟩]) l) [⟨24,0⟩]
def atErr (d:Dv) (l:List En):Int:=if fh d=0 then (if ey (au l) (d.im.length:Int)=0 then (if wd (dvV d) 24=0 then 0 else 8) else ey (au l) (d.im.length:Int)) else fh d
theorem mF:∀(l:List Dw) (x:List Nat),(ku x l).length=x.length:=by
 intro l
 induction l with
 | nil=>intro x;rfl
 | cons e l ih=>intro x;show (ku (x.set e.a.toNat e.v) l).length=_;rw[ih,kq4]
theorem bM(d:Dv):eY d=true↔aj (d.im.length:Int)=true /\ -1<=d.left/\d.left<=1000000/\(d.down=true->d.left=0)/\iM d.im.length d.dw (-1)=true:=by
 unfold eY;simp only[kqt,kzc,kxy,kx4,kqw];constructor
 .rintro ⟨f,b,e,a,c⟩;refine⟨f,b,e,λh=>?_,c⟩;rcases a with a|a
  .rw[a] at h;cases h
  exact a
 rintro ⟨f,b,e,a,c⟩;refine⟨f,b,e,?_,c⟩;cases g:d.down with
 | false=>exact .inl rfl
 | true=>exact .inr (a g)
theorem pF(h:fh d=0):eY d=true:=by
 unfold fh at h;split at h
 .assumption
 cases h
theorem jQ(h:eY d=true):fh d=0:=by unfold fh;rw[if_pos h]
theorem ze{b':Int}(h:iM n l b=true)(hb:b'<=b):iM n l b'=true:=by
 cases l with
 | nil=>rfl
 | cons e l =>simp only[iM,kqt,kzc] at h |-;exact⟨by omega,h.2⟩
theorem fS :∀ {l:List Dw} {b:Int},iM n l b=true->∀e∈l,b<e.a/\e.a<(n:Int):=by
 intro l
 induction l with
 | nil=>intro b _ e c;exact absurd c (by simp)
 | cons x l ih =>
  intro b h e c;simp only[iM,kqt,kzc] at h;rcases kqx.1 c with rfl|c
  .exact ⟨h.1,h.2.1⟩
  have:=ih h.2.2 e c;omega
theorem stQ_to{v:Nat}(ha:a<(n:Int)):∀ {l:List Dw} {b:Int},iM n l b=true->b<a->iM n (stQ l a v) b=true:=by
 intro l
 induction l with
 | nil=>intro b _ c;simp[stQ,iM];omega
 | cons e l ih =>
  intro b h c;simp only[iM,kqt,kzc] at h;unfold stQ;by_cases f:e.a<a
  .rw[if_pos f];simp only[iM,kqt,kzc];exact⟨h.1,h.2.1,ih h.2.2 f⟩
  rw[if_neg f];by_cases d:e.a=a
  .rw[if_pos d];simp only[iM,kqt,kzc];exact⟨c,ha,by rw[<-d];exact h.2.2⟩
  rw[if_neg d];simp only[iM,kqt,kzc];exact⟨c,ha,by omega,h.2.1,h.2.2⟩
theorem flQ_to :∀ {l:List Dw} {b:Int},iM n (flQ a l) b=iM n l b:=by
 intro l
 induction l with
 | nil=>intro b;rfl
 | cons e l ih =>
  intro b;have c:(flB a e).a=e.a:=by unfold flB;split<;>rfl
  show (decide (b<(flB a e).a)&&(decide ((flB a e).a<(n:Int))&&iM n (flQ a l) (flB a e).a))=_;rw[c,ih];rfl
theorem Co{p:Dw->Bool}:∀ {l:List Dw} {b:Int},iM n l b=true->iM n (l.filter p) b=true:=by
 intro l
 induction l with
 | nil=>intro b _;rfl
 | cons e l ih =>
  intro b h;simp only[iM,kqt,kzc] at h;rw[kxr];split
  .simp only[iM,kqt,kzc];exact⟨h.1,h.2.1,ih h.2.2⟩
  exact ze (ih h.2.2) (by omega)
theorem zN{l:Int}(h1 : -1<=l)(h2:l<=1000000): -1<=dec l/\dec l<=1000000:=by unfold dec;split<;>omega
theorem AY(h:eY d=true)(h0:d.left=0):eY (dvD d)=true:=by rw[bM] at h |-;exact⟨h.1,h.2.1,h.2.2.1,λ_=>h0,h.2.2.2.2⟩
theorem uM{v:Nat}(h:eY d=true)(h0:0<=a)(ha:a<(d.im.length:Int)):eY (dvS d a v)=true:=by
 unfold dvS;by_cases b:d.left=0
 .rw[if_pos b];exact AY h b
 rw[if_neg b];rw[bM] at h |-;obtain⟨e,f⟩:=zN h.2.1 h.2.2.1;exact⟨h.1,e,f,λc=>absurd (h.2.2.2.1 c) b,stQ_to ha h.2.2.2.2 (by omega)⟩
theorem Gj(h:eY d=true):eY (dvF d a)=true:=by
 unfold dvF;by_cases b:d.left=0
 .rw[if_pos b];exact AY h b
 rw[if_neg b];rw[bM] at h |-;obtain⟨e,f⟩:=zN h.2.1 h.2.2.1;exact⟨h.1,e,f,λc=>absurd (h.2.2.2.1 c) b,by dsimp only;rw[flQ_to];exact h.2.2.2.2⟩
theorem Gh(h:eY d=true):eY (dvN d)=true:=by
 unfold dvN;by_cases b:d.left=0
 .rw[if_pos b];exact AY h b
 rw[if_neg b];rw[bM] at h |-;obtain⟨c,f⟩:=zN h.2.1 h.2.2.1;have a:(fnI d.im d.dw).length=d.im.length:=mF _ _;refine⟨by dsimp only;rw[a];exact h.1,c,f,λe=>absurd (h.2.2.2.1 e) b,?_⟩;dsimp only;rw[a];exact Co h.2.2.2.2
theorem sR(d:Dv)(a:Int)(v:Nat):(dvS d a v).im=d.im:=by unfold dvS dvD;split<;>rfl
theorem Gd(d:Dv)(a:Int):(dvF d a).im=d.im:=by unfold dvF dvD;split<;>rfl
theorem y7(d:Dv):(dvN d).im.length=d.im.length:=by
 unfold dvN dvD;split
 .rfl
 exact mF _ _
theorem tD:∀(l:List En) (d:Dv),(ou d l).im=d.im:=by
 intro l
 induction l with
 | nil=>intro d;rfl
 | cons e l ih=>intro d;show (ou (dvS d e.a e.v) l).im=_;rw[ih,sR]
theorem ua(ad:List Int)(d:Dv):∀k,(ld ad d k).im=d.im:=by
 intro k
 induction k with
 | zero=>rfl
 | succ k ih =>
  unfold ld;split
  .rw[Gd,ih]
  exact ih
theorem lD(d:Dv)(l:List En):(rpP d l).im.length=d.im.length:=by unfold rpP;rw[y7,ua,tD]
theorem lQ:∀(l:List En) {d:Dv},eY d=true->(∀e∈l,0<=e.a/\e.a<(d.im.length:Int))->eY (ou d l)=true:=by
 intro l
 induction l with
 | nil=>intro d h _;exact h
 | cons e l ih =>intro d h b;have c:=b e (by simp);exact ih (d:=dvS d e.a e.v) (uM h c.1 c.2) λx f=>by rw[sR];exact b x (by simp[f])
theorem kn(h:eY d=true):∀k,eY (ld ad d k)=true:=by
 intro k
 induction k with
 | zero=>exact h
 | succ k ih =>
  unfold ld;split
  .exact Gj ih
  exact ih
theorem ph{l:List En}(h:eY d=true)(he:∀e∈l,0<=e.a/\e.a<(d.im.length:Int)):eY (rpP d l)=true:=Gh (kn (lQ l h he) _)
def RdQ (w:World) (B:Nat) (A:Option Addr) (l:List Dw):Prop:=Rd w B A (l.flatMap Dw.cells)
theorem RdQ.at_{w:World}{B:Nat}{A:Option Addr}(h:RdQ w B A l)(hk:k<l.length):
 ∃b c,A=some ⟨b,c,none⟩/\b<B/\w.cell? ⟨b,c+k*3,none⟩=some (.int .i64 l[k].a)/\w.cell? ⟨b,c+k*3+1,none⟩=some (.int .u64 (l[k].v:Int))/\w.cell? ⟨b,c+k*3+2,none⟩=some (.bool l[k].f):=by obtain⟨b,c,e,g,d⟩:=Rd.at_flat Dw.len h (by omega) hk;exact⟨b,c,e,g,d 0 (by omega),d 1 (by omega),d 2 (by omega)⟩
theorem CR(hk:k<l.length):iM n (l.drop k) b=(decide (b<l[k].a)&&(decide (l[k].a<(n:Int))&&iM n (l.drop (k+1)) l[k].a)):=by rw[kx0 hk];rfl
def DT (n:Nat) (lf:Int) (dn:Bool):Bool:=aj (n:Int)&&(decide (-1<=lf)&&(decide (lf<=1000000)&&(!dn||lf==0)))
theorem D3(im:List Nat)(dw:List Dw)(lf:Int)(dn:Bool):eY ⟨im,dw,lf,dn⟩=(DT im.length lf dn&&iM im.length dw (-1)):=by unfold eY DT;simp only[Bool.and_assoc]
theorem kx(A DA:Option Addr)(im:List Nat)(dw:List Dw)(lf:Int)(dn:Bool)(n c m dc:Nat)(w:World)(hn:im.length=n)(hm:dw.length=m)(hn2:n<=9223372036854775807)(hm2:m<=4611686018427387904)(hr:RdQ w w.heap.size DA dw):
 Calls prog 123 #[.agg #[.slice A n c,.slice DA m dc,.int .i64 lf,.bool dn]] w λe w'=>e=.returned (.int .i64 (fh ⟨im,dw,lf,dn⟩))/\Below w.heap.size w w':=by
 have q:=hid (λW=>aG A n c W hn2);have u:Hid (fh ⟨im,dw,lf,dn⟩=if DT n lf dn&&iM n dw (-1) then 0 else 8):=hid (by unfold fh;rw[D3,hn]);have a:DT n lf dn=(aj (n:Int)&&(decide (-1<=lf)&&(decide (lf<=1000000)&&(!dn||lf==0)))):=rfl;have H:=hid (Bx.new w 79 #[.slice A n c,.slice DA m dc,.int .i64 lf,.bool dn]);have j:=hid ((kqk w.heap.size w).alloc (kqa _) (.cells #[.slice A n c,.slice DA m dc,.int .i64 lf,.bool dn] 79));have U:=hid hr;obtain⟨r,l⟩:=xq (w.alloc (.cells #[.slice A n c,.slice DA m dc,.int .i64 lf,.bool dn] 79));rw[l] at H j;obtain⟨Q,q1,q2,q3,-,-,-,-,O⟩:=H.out.c4;clear hr hn hn2;cases z:aj (n:Int)
 .have d:Hid (fh ⟨im,dw,lf,dn⟩=8):=hid (by rw[u.out,a,z];rfl);have f:=hid (bI z);clear z a;go_enter func123,ntmps123;go_wp2_with fail;refine (q.out r).mono ?_;rintro e D ⟨rfl,rfl⟩;rw[f.out];clear l;go_wp2;go_ret;exact⟨by rw[d.out];rfl,j.out⟩
 have f:=hid (aZ z);rw[z,kzq] at a;clear z;by_cases h1:lf < -1
 .have d:Hid (fh ⟨im,dw,lf,dn⟩=8):=hid (by rw[u.out,a,decide_eq_false (by omega)];rfl);clear a;go_enter func123,ntmps123;go_wp2_with fail;refine (q.out r).mono ?_;rintro e D ⟨rfl,rfl⟩;rw[f.out];clear l;go_wp2;go_ret;exact⟨by rw[d.out];rfl,j.out⟩
 rw[decide_eq_true (show -1<=lf by omega),kzq] at a;by_cases h2:1000000<lf
 .have d:Hid (fh ⟨im,dw,lf,dn⟩=8):=hid (by rw[u.out,a,decide_eq_false (by omega)];rfl);clear a;go_enter func123,ntmps123;go_wp2_with fail;refine (q.out r).mono ?_;rintro e D ⟨rfl,rfl⟩;rw[f.out];clear l;go_wp2;go_ret;exact⟨by rw[d.out];rfl,j.out⟩
 rw[decide_eq_true (show lf<=1000000 by omega),kzq] at a;have t:(dn=true/\lf≠0)\/(!dn||lf==0)=true:=by
  cases dn with
  | false=>exact .inr rfl
  | true =>
   by_cases h:lf=0
   .exact .inr (by rw[h];rfl)
   exact .inl ⟨rfl,h⟩
 rcases t with⟨rfl,t⟩|t
 .have I:(lf==0)=false:=by rw[kqi];exact t
  have e4:(lf != 0)=true:=by rw[kqv];exact t
  have d:Hid (fh ⟨im,dw,lf,true⟩=8):=hid (by rw[u.out,a,I];rfl);clear a t I;go_enter func123,ntmps123;go_wp2_with fail;refine (q.out r).mono ?_;rintro e D ⟨rfl,rfl⟩;rw[f.out];clear l;go_wp2;go_ret;exact⟨by rw[d.out];rfl,j.out⟩
 rw[t] at a;rw[a,kzq] at u;have S:dn=false\/(dn=true/\lf=0):=by
  cases dn with
  | false=>exact .inl rfl
  | true=>exact .inr ⟨rfl,by simpa using t⟩
 have F:=hid (U.out.below j.out);subst hm;clear a t;rcases S with rfl|⟨rfl,rfl⟩
 all_goals
  go_enter func123,ntmps123;go_wp2_with fail;refine (q.out r).mono ?_;rintro e D ⟨rfl,rfl⟩;rw[f.out];clear l;go_wp2_with fail;go_loopw [33,4] (λi R wr=>∃(k:Nat) (b:Int),k<=dw.length/\i=.int .i64 k/\R=.int .i64 b/\Hid (iM n dw (-1)=iM n (dw.drop k) b)/\Below r.heap.size r wr) (λi _ _=>dw.length-(intOf i).toNat)
  case atStart=>exact⟨0,-1,kqy _,rfl,rfl,hid rfl,kqk _ _⟩
  obtain⟨k,b,P,rfl,rfl,E,B⟩:=hrel;by_cases s:k<dw.length
  .obtain ⟨g,o,rfl,hgb,J,L,K⟩:=RdQ.at_ (show RdQ wr w.heap.size DA dw from Rd.keep F.out λp hp=>B.cell (by have:=j.out.size;omega)) s;have C:=hid (CR (n:=n) (b:=b) s);obtain⟨x,G⟩:=xq (dw[k]);rw[G] at J L K C;obtain⟨v,M,N⟩:=x;dsimp only at J L K C;have r0:=(B.cell (p:=⟨w.heap.size,0,none⟩) O).trans Q;have hki:(k:Int)<(dw.length:Int):=by omega
   have hk0:(0:Int)<=(k:Int):=by omega
   have T:=B.size;have hgw:w.heap.size<wr.heap.size:=by omega
   have y:=hid (B.alloc T (.cells #[.int .i64 v,.int .u64 (M:Int),.bool N] 92));clear G B;by_cases c1:v<=b
   .have d:Hid (iM n dw (-1)=false):=hid (by rw[E.out,C.out,decide_eq_false (by omega)];rfl);go_wp2;go_ret;exact⟨by rw[u.out,d.out];rfl,j.out.trans (y.out.mono j.out.size)⟩
   by_cases c2:(n:Int)<=v
   .have d:Hid (iM n dw (-1)=false):=hid (by rw[E.out,C.out,decide_eq_false (show ¬ v<(n:Int) by omega)];simp);go_wp2;go_ret;exact⟨by rw[u.out,d.out];rfl,j.out.trans (y.out.mono j.out.size)⟩
   have d:Hid (iM n dw (-1)=iM n (dw.drop (k+1)) v):=hid (by rw[E.out,C.out,decide_eq_true (show b<v by omega),decide_eq_true (show v<(n:Int) by omega)];simp);go_wp2;go_roundw
   case rel=>exact⟨k+1,v,by omega,by go_num,rfl,d,y.out⟩
   case measure=>simp[intOf];omega
  have d:Hid (iM n dw (-1)=true):=hid (by rw[E.out,List.drop_eq_nil_of_le (by omega)];rfl);have hend:decide ((k:Int)<(dw.length:Int))=false:=by rw[kqc];omega
  have hendn:decide (k<dw.length)=false:=by rw[kqc];exact s
  clear s P;go_wp2;go_ret;exact⟨by rw[u.out,d.out];rfl,j.out.trans (B.mono j.out.size)⟩
theorem jZ:(prog.info? 79).map (·.size)=some 4:=by kernel_rfl
theorem Ag:(prog.info? 92).map (λi=>(i.zero,i.size,i.bytes))=some (some (.agg #[.int .i64 0,.int .u64 0,.bool false]),3,24):=by kernel_rfl
theorem yG(h:fn.results=#[.cell p 79])(tmps:Array Value){cs:Array Value}(hb:Bx W g t cs)(hs:cs.size=4)(hp:tmps.getD p undef=.pointer (some ⟨g,0,none⟩)):
 (results fn tmps).run prog W=.ok (.agg cs) W:=by
 have a:tmps[p]?.getD undef=.pointer (some ⟨g,0,none⟩):=by simpa using hp
 have b:(prog.info? 79).map (·.size)=some cs.size:=by rw[hs];exact jZ
 have c:=run_loadVar_row W g t 79 cs (0,0) _ hb underlying79 rfl b;simp[results,h,a,asAddr,c]
theorem bg{q:Tmp}(h:fn.results=#[.cell p 79,.tmp q])(tmps:Array Value){cs:Array Value}{u:Value}(hb:Bx W g t cs)(hs:cs.size=4)(hp:tmps.getD p undef=.pointer (some ⟨g,0,none⟩))(hq:tmps.getD q undef=u):
 (results fn tmps).run prog W=.ok (.tuple #[.agg cs,u]) W:=by
 have b:tmps[p]?.getD undef=.pointer (some ⟨g,0,none⟩):=by simpa using hp
 have a:tmps[q]?.getD undef=u:=by simpa using hq
 have c:(prog.info? 79).map (·.size)=some cs.size:=by rw[hs];exact jZ
 have d:=run_loadVar_row W g t 79 cs (0,0) _ hb underlying79 rfl c;simp[results,h,b,a,asAddr,d]
section
variable {ops:Array Oper} {rest:List Oper} {a:Act} {w:World} {Q:Exit->Act->World->Prop} {dst:Option Tmp} {type:TypeId} {pos:String} {after:Array Edge} {x y:Operand} {g:Nat} {old new:Array Value}
theorem stD(hb:Bx w g 79 old)(h:∀b,Hid (Bx b g 79 new)->Hid (iD w b g)->wpList prog ops Q rest (a.put dst undef) b)(hx:a.eval x=.pointer (some ⟨g,0,none⟩):=by rfl)(hy:a.eval y=.agg new:=by rfl)(ho:new.size=old.size:=by rfl)(hs:new.size=4:=by rfl)(h1:new.all (·.oneCell')=true:=by simp[Value.oneCell']):
 wpList prog ops Q ({ dst := dst,op := .store 79 x y,type := type,pos := pos,after := after,guard := none }::rest) a w:=
 am rfl _ _ _ rfl g _ old new hx hy hb ho (by rw[hs];exact jZ) h1 λb d c=>h b (hid d) (hid c)
theorem ldD(hb:Bx w g 79 old)(h:wpList prog ops Q rest (a.put dst (.agg old)) w)(hx:a.eval x=.pointer (some ⟨g,0,none⟩):=by rfl)(hs:old.size=4:=by rfl):
 wpList prog ops Q ({ dst := dst,op := .load 79 x,type := type,pos := pos,after := after,guard := none }::rest) a w:=
 kxh rfl _ _ rfl g hx 79 old (0,0) _ hb underlying79 (by rfl) (by rw[hs];exact jZ) h
end
theorem nq(w:World)(A DA:Option Addr)(lf:Int)(dn:Bool)(n c m dc:Nat):∃W0,(w.alloc (.cells #[.slice A n c,.slice DA m dc,.int .i64 lf,.bool dn] 79)).alloc (.cells #[.slice none 0 0,.slice none 0 0,.int .i64 0,.bool false] 79)=W0/\Bx W0 w.heap.size 79 #[.slice A n c,.slice DA m dc,.int .i64 lf,.bool dn]/\Bx W0 (w.heap.size+1) 79 #[.slice none 0 0,.slice none 0 0,.int .i64 0,.bool false]/\Below w.heap.size w W0/\W0.heap.size=w.heap.size+1+1:=by have a:=Bx.new (w.alloc (.cells #[.slice A n c,.slice DA m dc,.int .i64 lf,.bool dn] 79)) 79 #[.slice none 0 0,.slice none 0 0,.int .i64 0,.bool false];rw[kqm] at a;exact⟨_,rfl,(Bx.new w 79 #[.slice A n c,.slice DA m dc,.int .i64 lf,.bool dn]).alloc (.cells #[.slice none 0 0,.slice none 0 0,.int .i64 0,.bool false] 79),a,((kqk w.heap.size w).alloc (kqa _) (.cells #[.slice A n c,.slice DA m dc,.int .i64 lf,.bool dn] 79)).alloc (by simp) (.cells #[.slice none 0 0,.slice none 0 0,.int .i64 0,.bool false] 79),by simp⟩
def OwnQ (w:World) (l:List Dw) (e:Ending) (w':World):Prop:=∃A c,e=.returned (.slice A l.length c)/\w'.ownsRow w.heap.size 92 3 (.slice A l.length c) l.length (l.flatMap Dw.cells)/\Below w.heap.size w w'
theorem uA(A:Option Addr)(l:List Dw)(c n:Nat)(w:World)(hn:l.length=n)(hm:n<=1000000)(hr:RdQ w w.heap.size A l):
 Calls prog 125 #[.slice A n c] w λe w'=>OwnQ w l e w':=by
 have D:=hid hr;have o:=hid hn;have s:=hid (cw Dw.cells 3 Dw.len l);have f:=λ(W:World)=>Lib.run_eql_slice_nil (P:=prog) (w:=W) 77 92 A n c 0 0 underlying77;obtain⟨E,u,g,j,k⟩:=kzw Ag;have B:=hid u;have t:=hid g;have r:=hid j;have p:=hid k;clear u g j k;cases A with
 | none =>
  have y:l=[]:=by
   cases l with
   | nil=>rfl
   | cons x l =>obtain⟨b,off,e,-⟩:=RdQ.at_ hr (show 0<(x::l).length by simp);cases e
  have v:=hid y;simp only[Option.isNone_none] at f;clear hr hn y;go_enter func125,ntmps125;go_wp2;go_ret;exact⟨none,0,by rw[v.out];rfl,by rw[v.out];exact kza _ _ _ _,kqk _ _⟩
 | some a =>simp only[Option.isNone_some] at f;clear hr hn;go_enter func125,ntmps125;go_wp2_with (at_builtin;refine bJ _ (by rfl) _ _ 77 rfl w.heap.size 92 E _ 3 24 underlying77 B.out t.out r.out p.out rfl (by decide) (.slice (some ⟨w.heap.size,0,none⟩) 0 0) 0 [] (by rfl) (il w _ _ _ (kqa _)) w.heap.size (some a) n _ (l.flatMap Dw.cells) (by rfl) (by rw[s.out,o.out]) (Rd.alloc D.out (kqa _) _) (dP Dw.one _) (by unfold maxLen;omega) (by omega) (by simp) ?_;intro v1 wa d i;have h:=cB ((kqk w.heap.size w).alloc (kqa _) _) (by simp) (il w w.heap.size 92 3 (kqa _)) i;simp only[kxd,kz1] at d;obtain⟨z,C,rfl⟩:=aO d;have m:=hid d;have q:=hid h;clear d h i);go_ret;exact⟨z,C,by rw[o.out];rfl,by rw[o.out];exact m.out,q.out⟩
def lx (w':World) (H:Nat) (d:Dv) (v:Value):Prop:=∃A c DA dc,v=.agg #[.slice A d.im.length c,.slice DA d.dw.length dc,.int .i64 d.left,.bool d.down]/\d.im.length<=c/\w'.ownsRow H 53 1 (.slice A d.im.length c) d.im.length (d.im.flatMap ag)/\w'.ownsRow H 92 3 (.slice DA d.dw.length dc) d.dw.length (d.dw.flatMap Dw.cells)
theorem FZ(A DA:Option Addr)(im:List Nat)(dw:List Dw)(lf:Int)(dn:Bool)(n c m dc:Nat)(w:World)(hn:im.length=n)(hm:dw.length=m)(h0:0<n)(hn2:n<=1000000)(hm2:m<=1000000)(hr:RdW w w.heap.size A im)(hq:RdQ w w.heap.size DA dw):
 Calls prog 265 #[.agg #[.slice A n c,.slice DA m dc,.int .i64 lf,.bool dn]] w λe w'=>(∃v,e=.returned v/\lx w' w.heap.size ⟨im,dw,lf,dn⟩ v)/\Below w.heap.size w w':=by
 have B:=hid (λW (h:RdW W W.heap.size A im)=>nQ A im c n W.heap.size W hn h0 hn2 h (kqa _));have z:=hid (λW (h:RdQ W W.heap.size DA dw)=>uA DA dw dc m W hm hm2 h);unfold xB at B;unfold OwnQ at z;rw[hn] at B;rw[hm] at z;have HR:=hid hr;have HQ:=hid hq;have a:=(Bx.new w 79 #[.slice A n c,.slice DA m dc,.int .i64 lf,.bool dn]).alloc (.cells #[.slice none 0 0,.slice none 0 0,.int .i64 0,.bool false] 79);have d:=Bx.new (w.alloc (.cells #[.slice A n c,.slice DA m dc,.int .i64 lf,.bool dn] 79)) 79 #[.slice none 0 0,.slice none 0 0,.int .i64 0,.bool false];rw[kqm] at d;have C:=((kqk w.heap.size w).alloc (kqa _) (.cells #[.slice A n c,.slice DA m dc,.int .i64 lf,.bool dn] 79)).alloc (by simp) (.cells #[.slice none 0 0,.slice none 0 0,.int .i64 0,.bool false] 79);have I:((w.alloc (.cells #[.slice A n c,.slice DA m dc,.int .i64 lf,.bool dn] 79)).alloc (.cells #[.slice none 0 0,.slice none 0 0,.int .i64 0,.bool false] 79)).heap.size=w.heap.size+1+1:=by simp
 obtain⟨H,K⟩:=xq ((w.alloc (.cells #[.slice A n c,.slice DA m dc,.int .i64 lf,.bool dn] 79)).alloc (.cells #[.slice none 0 0,.slice none 0 0,.int .i64 0,.bool false] 79));rw[K] at a d C I;have X0:=hid a;have X1:=hid d;have Q:=hid C;obtain⟨q0,q1,q2,q3,-,-,-,-,hg⟩:=a.c4;have D:w.heap.size<=H.heap.size:=by omega
 have G:w.heap.size+1<H.heap.size:=by omega
 have Eq:(prog.info? 79).map (·.size)=some (#[.slice A n c,.slice DA m dc,.int .i64 lf,.bool dn]:Array Value).size:=jZ;have y:=hid hn;have M:=hid hm;clear hr hq a d C I hn hm;go_enter func265,ntmps265;go_wp2_with fail;clear K;refine (B.out H (HR.out.up Q.out D)).mono ?_;rintro e w1 ⟨i,g,rfl,q,l⟩;have E:=hid q;have a:=X0.out.up l hg;have d:=X1.out.up l G;have R:=hid (Q.out.trans (l.mono D));have hz1:=l.size;obtain⟨q0,q1,q2,q3,f0,f1,-,-,hg1⟩:=a.c4;have XX0:=hid a;have X:=hid d;clear q l a d;go_wp2_with fail;have u:w.heap.size+1≠w.heap.size:=by omega
 have Kb:∀b,some b≠(Value.slice (some ⟨i,0,none⟩) n g).ownBlock->True:=λ_ _=>trivial;have Z:=R.out.setCell (p:=⟨w.heap.size,0,none⟩) (kqa _) (.slice (some ⟨i,0,none⟩) n g);have a:=XX0.out.set_ 0 (.slice (some ⟨i,0,none⟩) n g);have d:=X.out.far (p:=⟨w.heap.size,0,none⟩) u (.slice (some ⟨i,0,none⟩) n g);have S:=av E.out (bH E.out hg).symm (p:=⟨w.heap.size,0,none⟩) (.slice (some ⟨i,0,none⟩) n g);have Kc:(w1.setCell ⟨w.heap.size,0,none⟩ (.slice (some ⟨i,0,none⟩) n g)).heap.size=w1.heap.size:=kz6 _ _ _;obtain⟨L,O⟩:∃L,w1.setCell ⟨w.heap.size,0,none⟩ (.slice (some ⟨i,0,none⟩) n g)=L:=⟨_,rfl⟩;rw[O] at Z a d S Kc |-;have Y0:=hid a;have Y1:=hid d;have O2:=hid S;have s:=hid Z;have F:w.heap.size<L.heap.size:=by omega
 have x:w.heap.size+1<L.heap.size:=by omega
 clear O a d S Z Kb;refine (z.out L (HQ.out.up s.out s.out.size)).mono ?_;rintro e U ⟨j,r,rfl,o,f⟩;have Ka:=hid (s.out.trans (f.mono s.out.size));have O3:=hid (ai O2.out f (kqa _));have Q3:=hid o;have a:=Y0.out.up f F;have d:=Y1.out.up f x;have hz3:=f.size;obtain⟨q0,q1,q2,q3,f0,f1,-,-,hg3⟩:=(show Bx U w.heap.size 79 #[.slice (some ⟨i,0,none⟩) n g,.slice DA m dc,.int .i64 lf,.bool dn] from a).c4;have Z0:=hid (show Bx (U.setCell ⟨w.heap.size,1,none⟩ (.slice j m r)) w.heap.size 79 #[.slice (some ⟨i,0,none⟩) n g,.slice j m r,.int .i64 lf,.bool dn] from a.set_ 1 (.slice j m r));have Z1:=hid (d.far (p:=⟨w.heap.size,1,none⟩) u (.slice j m r));have V:=hid (Ka.out.setCell (p:=⟨w.heap.size,1,none⟩) (kqa _) (.slice j m r));have T:=hid (av O3.out (bH O3.out hg).symm (p:=⟨w.heap.size,1,none⟩) (.slice j m r));have Q4:=hid (av Q3.out (bH Q3.out F).symm (p:=⟨w.heap.size,1,none⟩) (.slice j m r));clear o f a d;go_wp2_with (first
  | ((with_reducible refine aN 79 (.tmp 1) ?_);refine kxh rfl _ _ rfl w.heap.size (by rfl) 79 _ (0,0) _ Z0.out underlying79 (by rfl) jZ ?_)
  | ((with_reducible refine ar 79 (.tmp 2) _ ?_);refine am rfl _ _ _ rfl (w.heap.size+1) 79 #[.slice none 0 0,.slice none 0 0,.int .i64 0,.bool false] #[.slice (some ⟨i,0,none⟩) n g,.slice j m r,.int .i64 lf,.bool dn] (by rfl) (by rfl) Z1.out rfl Eq (by simp[Value.oneCell']) ?_;intro w9 J P;have Y:=hid J;have t:=hid P;clear J P))
 have N:(U.setCell ⟨w.heap.size,1,none⟩ (.slice j m r)).grownBy w9 (some (w.heap.size+1)):=by have hb:=t.out.2.2 (w.heap.size+1) (kqa _);exact⟨hb.os,hb.tape,hb.output,by rw[t.out.1];exact kqa _,λk hk u=>t.out.2.1 k (λe=>u (by rw[e]))⟩
 refine kqo (v:=.agg #[.slice (some ⟨i,0,none⟩) n g,.slice j m r,.int .i64 lf,.bool dn]) (yG results265 _ Y.out rfl rfl) rfl ⟨⟨_,rfl,some ⟨i,0,none⟩,g,j,r,by rw[y.out,M.out],?_,?_,?_⟩,t.out.below V.out (by omega)⟩
 .dsimp only;rw[y.out];exact cH T.out
 .dsimp only;rw[y.out];exact ao (bC T.out N (.inr (bH T.out G).symm)) D
 dsimp only;rw[M.out];exact ao (bC Q4.out N (.inr (bH Q4.out x).symm)) s.out.size
theorem iD.grown{w:World}(h:iD w w' g):w.grownBy w' (some g):=by have a:=h.2.2 g (kqa _);exact⟨a.os,a.tape,a.output,by rw[h.1];exact kqa _,λk _ b=>h.2.1 k (λe=>b (by rw[e]))⟩
theorem ap{w:World}{sz:Nat}{e:TypeId}{xs:List Value}(h:w.ownsRow H e sz v n xs)(ha:iD w w' g)(hg:g<H):w'.ownsRow H e sz v n xs:=bC h ha.grown (.inr (bH h hg).symm)
def dvB (d:Dv):Dv:=if d.left=0 then dvD d else { d with left:=dec d.left }
theorem oo(A DA:Option Addr)(im:List Nat)(dw:List Dw)(lf:Int)(dn:Bool)(n c m dc:Nat)(w:World)(hn:im.length=n)(hm:dw.length=m)(h0:0<n)(hn2:n<=1000000)(hm2:m<=1000000)(hlf : -1<=lf/\lf<=1000000)(hr:RdW w w.heap.size A im)(hq:RdQ w w.heap.size DA dw):
 Calls prog 226 #[.agg #[.slice A n c,.slice DA m dc,.int .i64 lf,.bool dn]] w λe w'=>(∃v,e=.returned (.tuple #[v,.bool (decide (lf≠0))])/\lx w' w.heap.size (dvB ⟨im,dw,lf,dn⟩) v)/\Below w.heap.size w w':=by
 have D:=hid (λW (h:RdW W W.heap.size A im) (h2:RdQ W W.heap.size DA dw)=>FZ A DA im dw lf dn n c m dc W hn hm h0 hn2 hm2 h h2);unfold lx at D;rw[hn,hm] at D;have HR:=hid hr;have HQ:=hid hq;obtain⟨Z,Ka,E,H,V,Eq⟩:=nq w A DA lf dn n c m dc;have X0:=hid E;have X1:=hid H;have G:=hid V;have d:=hid hn;have o:=hid hm;obtain⟨q0,q1,q2,q3,-,-,-,-,j⟩:=E.c4;have f:w.heap.size<=Z.heap.size:=by omega
 have k:w.heap.size+1<Z.heap.size:=by omega
 have u:w.heap.size+1≠w.heap.size:=by omega
 clear hr hq E H V Eq hn hm;go_enter func226,ntmps226;go_wp2_with fail;clear Ka;refine (D.out Z (HR.out.up G.out f) (HQ.out.up G.out f)).mono ?_;rintro e w1 ⟨⟨v,rfl,y,z,i,g,rfl,F,K,P⟩,x⟩;have q:=hid K;have s:=hid P;have E:=hid (X0.out.up x j);have H:=hid (X1.out.up x k);have C:=hid (G.out.trans (x.mono f));clear x K P;by_cases l:lf=0
 .subst l;have M:Hid (dvB ⟨im,dw,0,dn⟩=⟨im,dw,0,true⟩):=hid (by unfold dvB dvD;rw[if_pos rfl]);go_wp2_with (first
   | (((with_reducible refine ar 79 (.tmp 1) _ ?_);refine stD E.out ?_;intro Y B a);obtain⟨s0,s1,s2,s3,R,N,J,Q,L⟩:=B.out.c4;have U:=hid (show Bx (Y.setCell ⟨w.heap.size,3,none⟩ (.bool true)) w.heap.size 79 #[.slice y n z,.slice i m g,.int .i64 0,.bool true] from B.out.set_ 3 (.bool true));have O:=hid ((a.out.bx H.out u).far (p:=⟨w.heap.size,3,none⟩) u (.bool true));have t:=hid ((a.out.below C.out (kqa _)).setCell (p:=⟨w.heap.size,3,none⟩) (kqa _) (.bool true));have S:=hid (av (ap q.out a.out j) (bH (ap q.out a.out j) j).symm (p:=⟨w.heap.size,3,none⟩) (.bool true));have X:=hid (av (ap s.out a.out j) (bH (ap s.out a.out j) j).symm (p:=⟨w.heap.size,3,none⟩) (.bool true)))
   | ((with_reducible refine aN 79 (.tmp 1) ?_);refine ldD U.out ?_)
   | ((with_reducible refine ar 79 (.tmp 2) _ ?_);refine stD O.out ?_;intro w9 r b))
  refine kqo (v:=.tuple #[.agg #[.slice y n z,.slice i m g,.int .i64 0,.bool true],.bool false]) (bg results226 _ r.out rfl rfl rfl) rfl ⟨⟨_,by rw[show decide ((0:Int)≠0)=false from rfl],by rw[M.out];exact⟨y,z,i,g,by rw[d.out,o.out],by rw[d.out];exact F,by rw[d.out];exact ao (ap S.out b.out k) f,by rw[o.out];exact ao (ap X.out b.out k) f⟩⟩,b.out.below t.out (by omega)⟩
 have e0:(lf==0)=false:=by rw[kqi];exact l
 have ed:decide (lf≠0)=true:=by rw[kqn];exact l
 have T:=hid ed;by_cases I:0<lf
 .have M:Hid (dvB ⟨im,dw,lf,dn⟩=⟨im,dw,lf-1,dn⟩):=hid (by unfold dvB dec;rw[if_neg l];dsimp only;rw[if_pos I]);have hw1:IntKind.i64.wrap (lf-1)=lf-1:=kqs _ (by omega);clear l ed;go_wp2_with (first
   | (((with_reducible refine ar 79 (.tmp 1) _ ?_);refine stD E.out ?_;intro Y B a);obtain⟨s0,s1,s2,s3,R,N,J,Q,L⟩:=B.out.c4;have U:=hid (show Bx (Y.setCell ⟨w.heap.size,2,none⟩ (.int .i64 (lf-1))) w.heap.size 79 #[.slice y n z,.slice i m g,.int .i64 (lf-1),.bool dn] from B.out.set_ 2 (.int .i64 (lf-1)));have O:=hid ((a.out.bx H.out u).far (p:=⟨w.heap.size,2,none⟩) u (.int .i64 (lf-1)));have t:=hid ((a.out.below C.out (kqa _)).setCell (p:=⟨w.heap.size,2,none⟩) (kqa _) (.int .i64 (lf-1)));have S:=hid (av (ap q.out a.out j) (bH (ap q.out a.out j) j).symm (p:=⟨w.heap.size,2,none⟩) (.int .i64 (lf-1)));have X:=hid (av (ap s.out a.out j) (bH (ap s.out a.out j) j).symm (p:=⟨w.heap.size,2,none⟩) (.int .i64 (lf-1))))
   | ((with_reducible refine aN 79 (.tmp 1) ?_);refine ldD U.out ?_)
   | ((with_reducible refine ar 79 (.tmp 2) _ ?_);refine stD O.out ?_;intro w9 r b))
  refine kqo (v:=.tuple #[.agg #[.slice y n z,.slice i m g,.int .i64 (lf-1),.bool dn],.bool true]) (bg results226 _ r.out rfl rfl rfl) rfl ⟨⟨_,by rw[T.out],by rw[M.out];exact⟨y,z,i,g,by rw[d.out,o.out],by rw[d.out];exact F,by rw[d.out];exact ao (ap S.out b.out k) f,by rw[o.out];exact ao (ap X.out b.out k) f⟩⟩,b.out.below t.out (by omega)⟩
 have M:Hid (dvB ⟨im,dw,lf,dn⟩=⟨im,dw,lf,dn⟩):=hid (by unfold dvB dec;rw[if_neg l];dsimp only;rw[if_neg I]);clear l ed;go_wp2_with (first
  | (((with_reducible refine ar 79 (.tmp 1) _ ?_);refine stD E.out ?_;intro Y B a);obtain⟨s0,s1,s2,s3,R,N,J,Q,L⟩:=B.out.c4;have U:=B;have O:=hid (a.out.bx H.out u);have t:=hid (a.out.below C.out (kqa _));have S:=hid (ap q.out a.out j);have X:=hid (ap s.out a.out j))
  | ((with_reducible refine aN 79 (.tmp 1) ?_);refine ldD U.out ?_)
  | ((with_reducible refine ar 79 (.tmp 2) _ ?_);refine stD O.out ?_;intro w9 r b))
 refine kqo (v:=.tuple #[.agg #[.slice y n z,.slice i m g,.int .i64 lf,.bool dn],.bool true]) (bg results226 _ r.out rfl rfl rfl) rfl ⟨⟨_,by rw[T.out],by rw[M.out];exact⟨y,z,i,g,by rw[d.out,o.out],by rw[d.out];exact F,by rw[d.out];exact ao (ap S.out b.out k) f,by rw[o.out];exact ao (ap X.out b.out k) f⟩⟩,b.out.below t.out (by omega)⟩
def FS (d:Dv) (a:Int):Int:=if fh d=0 then (if 0<=a/\a<(d.im.length:Int) then 0 else 2) else 8
theorem CZ(h:fh d≠0):fh d=8:=by
 unfold fh at h |-;split
 .rename_i h1;rw[if_pos h1] at h;exact absurd rfl h
 rfl
theorem Gf(A DA:Option Addr)(im:List Nat)(dw:List Dw)(lf:Int)(dn:Bool)(n c m dc:Nat)(a:Int)(w:World)(hn:im.length=n)(hm:dw.length=m)(hn2:n<=9223372036854775807)(hm2:m<=4611686018427387904)(hr:RdQ w w.heap.size DA dw):
 Calls prog 225 #[.agg #[.slice A n c,.slice DA m dc,.int .i64 lf,.bool dn],.int .i64 a] w λe w'=>e=.returned (.int .i64 (FS ⟨im,dw,lf,dn⟩ a))/\Below w.heap.size w w':=by
 have v:=hid (λW (h:RdQ W W.heap.size DA dw)=>kx A DA im dw lf dn n c m dc W hn hm hn2 hm2 h);have o:Hid (FS ⟨im,dw,lf,dn⟩ a=if fh ⟨im,dw,lf,dn⟩=0 then (if 0<=a/\a<(n:Int) then 0 else 2) else 8):=hid (by unfold FS;rw[<-hn]);have s:=hid (CZ (d:=⟨im,dw,lf,dn⟩));have u:=Bx.new w 79 #[.slice A n c,.slice DA m dc,.int .i64 lf,.bool dn];have l:=(kqk w.heap.size w).alloc (kqa _) (.cells #[.slice A n c,.slice DA m dc,.int .i64 lf,.bool dn] 79);have y:=hid hr;obtain⟨p,k⟩:=xq (w.alloc (.cells #[.slice A n c,.slice DA m dc,.int .i64 lf,.bool dn] 79));rw[k] at u l;have g:=hid l;have B:=hid u;obtain⟨q0,q1,q2,q3,-,-,-,-,z⟩:=u.c4;have i:w.heap.size<=p.heap.size:=by omega
 obtain⟨r,q⟩:∃r,fh ⟨im,dw,lf,dn⟩=r:=⟨_,rfl⟩;rw[q] at v o s;clear hr u l hn hm q;by_cases t:r=0
 .subst t;rw[if_pos rfl] at o;go_enter func225,ntmps225;go_wp2_with fail;clear k;refine (v.out p (y.out.up g.out i)).mono ?_;rintro e D ⟨rfl,b⟩;have x:=B.out.up b z;have f:=hid (g.out.trans (b.mono i));obtain⟨p0,-,-,-,-,-,-,-,-⟩:=x.c4;clear b x;by_cases h1:a<0
  .have j:Hid (FS ⟨im,dw,lf,dn⟩ a=2):=hid (by rw[o.out,if_neg (by omega)]);go_wp2;go_ret;exact⟨by rw[j.out];rfl,f.out⟩
  by_cases h2:(n:Int)<=a
  .have j:Hid (FS ⟨im,dw,lf,dn⟩ a=2):=hid (by rw[o.out,if_neg (by omega)]);go_wp2;go_ret;exact⟨by rw[j.out];rfl,f.out⟩
  have j:Hid (FS ⟨im,dw,lf,dn⟩ a=0):=hid (by rw[o.out,if_pos (by omega)]);go_wp2;go_ret;exact⟨by rw[j.out];rfl,f.out⟩
 have C:=s.out t;have j:Hid (FS ⟨im,dw,lf,dn⟩ a=8):=hid (by rw[o.out,if_neg t]);subst C;clear t;go_enter func225,ntmps225;go_wp2_with fail;clear k;refine (v.out p (y.out.up g.out i)).mono ?_;rintro e D ⟨rfl,b⟩;have f:=hid (g.out.trans (b.mono i));clear b;go_wp2;go_ret;exact⟨by rw[j.out];rfl,f.out⟩
def ES (d:Dv) (H:Nat) (e:Ending) (w':World):Prop:=(fh d=0->∃g c,e=.returned (.tuple #[.slice (some ⟨g,0,none⟩) d.im.length c,.int .i64 0])/\w'.ownsRow H 53 1 (.slice (some ⟨g,0,none⟩) d.im.length c) d.im.length ((dvV d).flatMap ag))/\(fh d≠0->e=.returned (.tuple #[.slice none 0 0,.int .i64 (fh d)]))
theorem Aw{x:List Nat}(hk:k<l.length):ku x (l.take (k+1))=(ku x (l.take k)).set l[k].a.toNat l[k].v:=by unfold ku;rw[kqp hk,List.foldl_append];rfl
theorem pU(A DA:Option Addr)(im:List Nat)(dw:List Dw)(lf:Int)(dn:Bool)(n c m dc:Nat)(w:World)(hn:im.length=n)(hm:dw.length=m)(hn2:n<=9223372036854775807)(hm2:m<=4611686018427387904)(hi:RdW w w.heap.size A im)(hr:RdQ w w.heap.size DA dw):
 Calls prog 81 #[.agg #[.slice A n c,.slice DA m dc,.int .i64 lf,.bool dn]] w λe w'=>ES ⟨im,dw,lf,dn⟩ w.heap.size e w'/\Below w.heap.size w w':=by
 have T:=hid (λW (h:RdQ W W.heap.size DA dw)=>kx A DA im dw lf dn n c m dc W hn hm hn2 hm2 h);have N:=Bx.new w 79 #[.slice A n c,.slice DA m dc,.int .i64 lf,.bool dn];have t:=(kqk w.heap.size w).alloc (kqa _) (.cells #[.slice A n c,.slice DA m dc,.int .i64 lf,.bool dn] 79);have HR:=hid hr;have Kd:=hid hi;obtain⟨M,F⟩:=xq (w.alloc (.cells #[.slice A n c,.slice DA m dc,.int .i64 lf,.bool dn] 79));rw[F] at N t;have v:=hid t;have X0:=hid N;obtain⟨q0,q1,q2,q3,-,-,-,-,hg⟩:=N.c4;have y:w.heap.size<=M.heap.size:=by omega
 have L:=hid hn;by_cases z:fh ⟨im,dw,lf,dn⟩=0
 .have I:=(bM _).1 (pF z);have hs:=(aa _).1 I.1;dsimp only at hs;have H:=I.2.2.2.2;dsimp only at H;have O:=hid (fS H);rw[hn] at O;have G:=hid (λW (h:RdW W W.heap.size A im)=>nQ A im c n W.heap.size W hn (by omega) (by omega) h (kqa _));unfold xB at G;rw[hn] at G;have D:=hid z;have Kf:=hid (λk Z=>Aw (x:=im) (l:=dw) (k:=k) Z);have Ka:Hid (dvV ⟨im,dw,lf,dn⟩=ku im (dw.take dw.length)):=hid (by rw[kzl];rfl);have hn3:n<=2048:=by omega
  rw[z] at T;subst hm;clear hr hi N t hn z I hs H;go_enter func81,ntmps81;go_wp2_with fail;clear F;refine (T.out M (HR.out.up v.out y)).mono ?_;rintro e K ⟨rfl,f⟩;have x1:=X0.out.up f hg;have X1:=hid x1;have d:=hid (v.out.trans (f.mono y));obtain⟨S,V,-,-,-,-,-,-,Eq⟩:=x1.c4;clear f x1;go_wp2_with fail;refine (G.out K (Kd.out.up d.out d.out.size)).mono ?_;rintro e w2 ⟨g,R,rfl,q,s⟩;have E:=hid q;have Ke:=hid (d.out.trans (s.mono d.out.size));have x2:=X1.out.up s Eq;obtain⟨-,r1,-,-,-,-,-,-,hg2⟩:=x2.c4;have hz2:=s.size;clear q s x2 S V;go_wp2_with fail;go_loopw [19] (λi wr=>∃k:Nat,k<=dw.length/\i=.int .i64 k/\Hid (wr.ownsRow K.heap.size 53 1 (.slice (some ⟨g,0,none⟩) n R) n ((ku im (dw.take k)).flatMap ag))/\Hid (Below w.heap.size w wr)) (λi _=>dw.length-(intOf i).toNat)
  case atStart=>exact⟨0,kqy _,rfl,E,Ke⟩
  obtain⟨k,Z,rfl,B,X⟩:=hrel;have hz:=X.out.size;by_cases j:k<dw.length
  .obtain ⟨b,o,rfl,hbb,S,V,p2⟩:=RdQ.at_ (HR.out.below X.out) j;have Q:=hid (Kf.out k j);have U:=hid (O.out _ (kqq j));obtain⟨x,hx⟩:=xq (dw[k]);rw[hx] at S V p2 Q U;obtain⟨xa,J,xf⟩:=x;dsimp only at S V p2 Q U;obtain⟨a,rfl⟩:=kq2 (show 0<=xa by have:=U.out.1;omega);rw[kqj] at Q;have ha:(a:Int)<(n:Int):=U.out.2;have ha0:(0:Int)<=(a:Int):=by omega
   have han:a<n:=by omega
   have hki:(k:Int)<(dw.length:Int):=by omega
   have hk0:(0:Int)<=(k:Int):=by omega
   obtain⟨Y,hY⟩:=xq (ku im (dw.take k));rw[hY] at B Q;have hw1g:K.heap.size<=g:=gG B.out;have HN:=hid (show ((wr.setCell ⟨g,a,none⟩ (.int .u64 (J:Int))).alloc (.cells #[.int .i64 (a:Int),.int .u64 (J:Int),.bool xf] 92)).ownsRow K.heap.size 53 1 (.slice (some ⟨g,0,none⟩) n R) n ((Y.set a J).flatMap ag) by
    rw[nD];exact ((B.out.stored a (.int .u64 (J:Int))).1).alloc _)
   have Kc:=hid ((X.out.setCell (p:=⟨g,a,none⟩) (by dsimp only;have:=d.out.size;omega) (.int .u64 (J:Int))).alloc (by rw[kz6];exact hz) (.cells #[.int .i64 (a:Int),.int .u64 (J:Int),.bool xf] 92));have hgw:g<wr.heap.size:=by have:=(B.out.lt g rfl).2;exact this
   obtain⟨u0,hu0⟩:∃u,wr.cell? ⟨g,a,none⟩=some u:=by have hc:=B.out.cellAt a (by omega);have hl:=B.out.1;rw[kql (by rw[hl];omega)] at hc;exact⟨_,hc⟩
   have hf0:=B.out.frozenAt a;clear hx hY;go_wp2;go_roundw
   case rel=>exact⟨k+1,by omega,by go_num,by rw[Q.out];exact HN,Kc⟩
   case measure=>simp[intOf];omega
  have P:k=dw.length:=by omega
  have E:Hid (wr.ownsRow K.heap.size 53 1 (.slice (some ⟨g,0,none⟩) n R) n ((dvV ⟨im,dw,lf,dn⟩).flatMap ag)):=hid (by rw[Ka.out,<-P];exact B.out);have hend:decide ((k:Int)<(dw.length:Int))=false:=by rw[kqc];omega
  have hendn:decide (k<dw.length)=false:=by rw[kqc];exact j
  clear j Z P;go_wp2;go_ret2;exact⟨⟨λ_=>⟨g,R,by rw[L.out];rfl,by rw[L.out];exact ao E.out d.out.size⟩,λh=>absurd D.out h⟩,X.out⟩
 have D:=hid z;obtain⟨r,C⟩:∃r,fh ⟨im,dw,lf,dn⟩=r:=⟨_,rfl⟩;rw[C] at T z;have Kb:=hid C;have e1:(r != 0)=true:=by rw[kqv];exact z
 clear hr hi N t hn hm z C;go_enter func81,ntmps81;go_wp2_with fail;clear F;refine (T.out M (HR.out.up v.out y)).mono ?_;rintro e K ⟨rfl,f⟩;have d:=hid (v.out.trans (f.mono y));clear f;go_wp2;go_ret2;exact⟨⟨λh=>absurd h D.out,λ_=>by rw[Kb.out];rfl⟩,d.out⟩
theorem Bp(h:eY d=true)(h0:0<=a)(h1:a<(d.im.length:Int)):FS d a=0:=by unfold FS;rw[if_pos (jQ h),if_pos ⟨h0,h1⟩]
theorem pq(d:Dv):(dvB d).im=d.im/\(dvB d).dw=d.dw:=by unfold dvB dvD;split<;>exact⟨rfl,rfl⟩
theorem qx(h:d.left=0):dvB d=dvD d:=by unfold dvB;rw[if_pos h]
theorem FF(hk:k<l.length)(R:List Dw)(hR:R=flQ a (l.take k)++l.drop k):R[k]? = some l[k]/\(flB a l[k]=l[k]->flQ a (l.take (k+1))++l.drop (k+1)=R)/\flQ a (l.take (k+1))++l.drop (k+1)=R.set k (flB a l[k])/\R.length=l.length:=by
 have c:(flQ a (l.take k)).length=k:=by unfold flQ;rw[kzo,kq3];omega
 have b:l.drop k=l[k]::l.drop (k+1):=kx0 hk;have d:flQ a (l.take (k+1))=flQ a (l.take k)++[flB a l[k]]:=by unfold flQ;rw[kqp hk,kjo];rfl
 subst hR;refine⟨?_,λh=>?_,?_,?_⟩
 .rw[kxi (by omega),c,kvt,b];rfl
 .rw[d,h,b,kxs];rfl
 .rw[d,b,kvd _ _ (by omega),c,kvt,kxs];rfl
 rw[kqu,c,kzv];omega
theorem Bo(A DA:Option Addr)(im:List Nat)(dw:List Dw)(lf:Int)(dn:Bool)(n c m dc a:Nat)(w:World)(hn:im.length=n)(hm:dw.length=m)(hok:eY ⟨im,dw,lf,dn⟩=true)(ha:a<n)(hm2:m<=1000000)(hi:RdW w w.heap.size A im)(hr:RdQ w w.heap.size DA dw):
 Calls prog 182 #[.agg #[.slice A n c,.slice DA m dc,.int .i64 lf,.bool dn],.int .i64 (a:Int)] w λe w'=>(∃v,e=.returned (.tuple #[v,.int .i64 0])/\lx w' w.heap.size (dvF ⟨im,dw,lf,dn⟩ (a:Int)) v)/\Below w.heap.size w w':=by
 have J:=(bM _).1 hok;have hs:=(aa _).1 J.1;dsimp only at hs;have Kj : -1<=lf/\lf<=1000000:=⟨J.2.1,J.2.2.1⟩;have Ka:=J.2.2.2.2;dsimp only at Ka;have Kg:=hid (fS Ka);rw[hn] at Kg;have Kc:=hid (λW (h:RdQ W W.heap.size DA dw)=>Gf A DA im dw lf dn n c m dc (a:Int) W hn hm (by omega) (by omega) h);rw[Bp hok (by omega) (by dsimp only;omega)] at Kc;have H:=hid (λW (h:RdW W W.heap.size A im) (I:RdQ W W.heap.size DA dw)=>oo A DA im dw lf dn n c m dc W hn hm (by omega) (by omega) (by omega) Kj h I);unfold lx at H;rw[(pq _).1,(pq _).2] at H;dsimp only at H;rw[hn,hm] at H;have HR:=hid hi;have HQ:=hid hr;obtain⟨W0,Ky,U,x1,Kr,Kw⟩:=nq w A DA lf dn n c m dc;have X0:=hid U;have X1:=hid x1;have Ks:=hid Kr;have B:=hid hn;have Y:=hid hm;obtain⟨q0,q1,q2,q3,-,-,-,-,hg⟩:=U.c4;have Ku:w.heap.size<=W0.heap.size:=by omega
 have Kv:w.heap.size+1<W0.heap.size:=by omega
 have Ki:w.heap.size+1≠w.heap.size:=by omega
 have hn3:n<=2048:=by omega
 clear hi hr U x1 Kr Kw hn hm J hs Ka hok;go_enter func182,ntmps182;go_wp2_with fail;clear Ky;refine (Kc.out W0 (HQ.out.up Ks.out Ku)).mono ?_;rintro e N ⟨rfl,G⟩;have U:=X0.out.up G hg;have f:=hid (Ks.out.trans (G.mono Ku));have hz1:=G.size;obtain⟨p0,p1,p2,p3,-,-,-,-,D⟩:=U.c4;have Y0:=hid U;have Y1:=hid (X1.out.up G Kv);have q:w.heap.size+1<N.heap.size:=by omega
 clear U G q0 q1 q2 q3;go_wp2_with fail;refine (H.out N (HR.out.up f.out f.out.size) (HQ.out.up f.out f.out.size)).mono ?_;rintro e w2 ⟨⟨v,rfl,O,P,t,r,rfl,Kl,Kf,Kk⟩,F⟩;have S:=hid Kf;have T:=hid Kk;have Z0:=hid (Y0.out.up F D);have Z1:=hid (Y1.out.up F q);have Kb:=hid (f.out.trans (F.mono f.out.size));have La:=F.size;clear F Kf Kk p0 p1 p2 p3;by_cases E:lf=0
 .subst E;have HV:Hid (dvF ⟨im,dw,0,dn⟩ (a:Int)=⟨im,dw,0,true⟩):=hid (by unfold dvF dvD;rw[if_pos rfl]);rw[qx rfl,show decide ((0:Int)≠0)=false from rfl];unfold dvD;dsimp only;go_wp2_with (first
   | ((with_reducible refine ar 79 (.tmp 2) _ ?_);refine stD Z0.out ?_;intro w3 U0 j)
   | ((with_reducible refine aN 79 (.tmp 2) ?_);refine ldD U0.out ?_)
   | ((with_reducible refine ar 79 (.tmp 4) _ ?_);refine stD (j.out.bx Z1.out Ki) ?_;intro w9 X u))
  refine kqo (v:=.tuple #[.agg #[.slice O n P,.slice t m r,.int .i64 0,.bool true],.int .i64 0]) (bg results182 _ X.out rfl rfl rfl) rfl ⟨⟨_,rfl,by
   rw[HV.out];exact⟨O,P,t,r,by rw[B.out,Y.out],by rw[B.out];exact Kl,by rw[B.out];exact ao (ap (ap S.out j.out D) u.out q) f.out.size,by rw[Y.out];exact ao (ap (ap T.out j.out D) u.out q) f.out.size⟩⟩,u.out.below (j.out.below Kb.out (kqa _)) (by omega)⟩
 have ed:decide (lf≠0)=true:=by rw[kqn];exact E
 have HV:Hid (dvF ⟨im,dw,lf,dn⟩ (a:Int)=⟨im,flQ (a:Int) dw,dec lf,dn⟩):=hid (by unfold dvF;rw[if_neg E]);have Kd:dvB ⟨im,dw,lf,dn⟩=⟨im,dw,dec lf,dn⟩:=by unfold dvB;rw[if_neg E]
 rw[ed,Kd];dsimp only;obtain⟨l2,Kn⟩:=xq (dec lf);rw[Kn] at HV |-;subst Y;have Lc:=hid (λk (J:k<dw.length) R hR=>FF (a:=(a:Int)) (l:=dw) (k:=k) J R hR);have Ld:Hid (flQ (a:Int) dw=flQ (a:Int) (dw.take dw.length)++dw.drop dw.length):=hid (by rw[kzl,kkc,kzs]);have Kq:Hid ((flQ (a:Int) dw).length=dw.length):=hid (by unfold flQ;rw[kzo]);clear Kn Kd ed E Kj;go_wp2_with (first
  | (((with_reducible refine ar 79 (.tmp 2) _ ?_);refine stD Z0.out ?_;intro w3 U0 j);obtain⟨s0,s1,s2,s3,sf0,sf1,sf2,sf3,slt⟩:=U0.out.c4))
 have hw3:w.heap.size<w3.heap.size:=U0.out.lt;have U1:=hid (j.out.bx Z1.out Ki);have Kx:=hid (ap S.out j.out D);have Le:=hid (ap T.out j.out D);have Lb:=hid (j.out.below Kb.out (kqa _));clear S T Kb Z0 Z1 j La;go_loopw [28] (λi wr=>∃(k:Nat) (R:List Dw),k<=dw.length/\i=.int .i64 k/\Hid (R=flQ (a:Int) (dw.take k)++dw.drop k)/\Hid (Bx wr w.heap.size 79 #[.slice O n P,.slice t dw.length r,.int .i64 l2,.bool dn])/\Hid (Bx wr (w.heap.size+1) 79 #[.slice none 0 0,.slice none 0 0,.int .i64 0,.bool false])/\Hid (wr.ownsRow N.heap.size 53 1 (.slice O n P) n (im.flatMap ag))/\Hid (wr.ownsRow N.heap.size 92 3 (.slice t dw.length r) dw.length (R.flatMap Dw.cells))/\Hid (Below w.heap.size w wr)) (λi _=>dw.length-(intOf i).toNat)
 case atStart=>exact⟨0,dw,kqy _,rfl,hid rfl,U0,U1,Kx,Le,Lb⟩
 obtain⟨k,R,J,rfl,Km,V0,V1,VO,M,VB⟩:=hrel;have hz:=VB.out.size;obtain⟨v0,v1,v2,v3,-,-,-,-,hgw⟩:=V0.out.c4;by_cases C:k<dw.length
 .obtain ⟨g,c9,Kt⟩:=fV M.out (by omega);obtain⟨rfl,-,rfl⟩:t=some ⟨g,0,none⟩/\dw.length=dw.length/\r=c9:=by injection Kt with h1 I h3;exact⟨h1,I,h3⟩
  obtain⟨y1,y2,y3,y4⟩:=Lc.out k C R Km.out;have K:k<R.length:=by rw[y4];exact C
  obtain⟨b,o,he,hbb,p0,p1,p2⟩:=RdQ.at_ (show RdQ wr wr.heap.size (some ⟨g,0,none⟩) R from Rd.of_own M.out) K;obtain⟨rfl,rfl⟩:g=b/\0=o:=by injection he with he;injection he with h1 I h3;exact⟨h1,I⟩
  rw[kxd] at p0 p1 p2;rw[kql K,Option.some.injEq] at y1;rw[y1] at p0 p1 p2;have HM:=hid (Kg.out _ (kqq C));have Y2:=hid y2;have Y3:=hid y3;have Kp:=hid (show R[k]? = some dw[k] by rw[kql K,y1]);obtain⟨x,hx⟩:=xq (dw[k]);rw[hx] at p0 p1 p2 HM Y2 Y3 Kp;obtain⟨xa,s,z⟩:=x;dsimp only at p0 p1 p2 HM;obtain⟨d,rfl⟩:=kq2 (show 0<=xa by have:=HM.out.1;omega);have hxn:d<2048:=by have:=HM.out.2;omega
  have hki:(k:Int)<(dw.length:Int):=by omega
  have hk0:(0:Int)<=(k:Int):=by omega
  have hgb:N.heap.size<=g:=gG M.out;have Kz:w.heap.size≠g:=by omega
  have Ke:w.heap.size+1≠g:=by omega
  have Ko:((d:Int)/8==(a:Int)/8)=decide (d/8=a/8):=by rw[kzg,kqw,kqn];omega
  clear hx Kt he y1 y2 y3 y4 K;by_cases L:d/8=a/8
  .have Eq:Hid (flB (a:Int) ⟨(d:Int),s,z⟩=⟨(d:Int),s,true⟩):=hid (by unfold flB;rw[if_pos (show (d:Int)/8=(a:Int)/8 by omega)]);rw[decide_eq_true L] at Ko;have hf2:=M.out.frozenAt (k*3+2);have VQN:=hid (show ((wr.setCell ⟨g,k*3+2,none⟩ (.bool true)).alloc (.cells #[.int .i64 (d:Int),.int .u64 (s:Int),.bool z] 92)).ownsRow N.heap.size 92 3 (.slice (some ⟨g,0,none⟩) dw.length r) dw.length ((R.set k ⟨(d:Int),s,true⟩).flatMap Dw.cells) by
    rw[eI Dw.cells 3 Dw.len R k 2 (by omega) ⟨(d:Int),s,true⟩ (.bool true) (λy hy=>by rw[Kp.out] at hy;cases hy;rfl)];exact ((M.out.stored (k*3+2) (.bool true)).1).alloc _)
   have Z:=hid ((av VO.out (p:=⟨g,k*3+2,none⟩) (show (Value.slice O n P).ownBlock≠some g from λh=>by
    rcases fO VO.out M.out (by decide) with I|I
    .rw[h] at I;cases I
    exact I h) (.bool true)).alloc (.cells #[.int .i64 (d:Int),.int .u64 (s:Int),.bool z] 92))
   have V:=hid ((V0.out.far (p:=⟨g,k*3+2,none⟩) Kz (.bool true)).alloc (.cells #[.int .i64 (d:Int),.int .u64 (s:Int),.bool z] 92));have Q:=hid ((V1.out.far (p:=⟨g,k*3+2,none⟩) Ke (.bool true)).alloc (.cells #[.int .i64 (d:Int),.int .u64 (s:Int),.bool z] 92));have VBN:=hid ((VB.out.setCell (p:=⟨g,k*3+2,none⟩) (by dsimp only;omega) (.bool true)).alloc (by rw[kz6];exact hz) (.cells #[.int .i64 (d:Int),.int .u64 (s:Int),.bool z] 92));have HN:Hid (R.set k ⟨(d:Int),s,true⟩=flQ (a:Int) (dw.take (k+1))++dw.drop (k+1)):=hid (by rw[Y3.out,Eq.out]);clear L;go_wp2;go_roundw
   case rel=>exact⟨k+1,R.set k ⟨(d:Int),s,true⟩,by omega,by go_num,HN,V,Q,Z,VQN,VBN⟩
   case measure=>simp[intOf];omega
  have Eq:Hid (flB (a:Int) ⟨(d:Int),s,z⟩=⟨(d:Int),s,z⟩):=hid (by unfold flB;rw[if_neg (show ¬ (d:Int)/8=(a:Int)/8 by omega)]);rw[decide_eq_false L] at Ko;have VQN:=hid (M.out.alloc (.cells #[.int .i64 (d:Int),.int .u64 (s:Int),.bool z] 92));have Z:=hid (VO.out.alloc (.cells #[.int .i64 (d:Int),.int .u64 (s:Int),.bool z] 92));have V:=hid (V0.out.alloc (.cells #[.int .i64 (d:Int),.int .u64 (s:Int),.bool z] 92));have Q:=hid (V1.out.alloc (.cells #[.int .i64 (d:Int),.int .u64 (s:Int),.bool z] 92));have VBN:=hid (VB.out.alloc hz (.cells #[.int .i64 (d:Int),.int .u64 (s:Int),.bool z] 92));have HN:Hid (R=flQ (a:Int) (dw.take (k+1))++dw.drop (k+1)):=hid (Y2.out Eq.out).symm;clear L;go_wp2;go_roundw
  case rel=>exact⟨k+1,R,by omega,by go_num,HN,V,Q,Z,VQN,VBN⟩
  case measure=>simp[intOf];omega
 have Kh:k=dw.length:=by omega
 have Lf:Hid (wr.ownsRow N.heap.size 92 3 (.slice t dw.length r) dw.length ((flQ (a:Int) dw).flatMap Dw.cells)):=hid (by
  have h:=M.out;rw[Km.out,Kh,<-Ld.out] at h;exact h)
 have hend:decide ((k:Int)<(dw.length:Int))=false:=by rw[kqc];omega
 have hendn:decide (k<dw.length)=false:=by rw[kqc];exact C
 clear C J Kh;go_wp2_with (first
  | ((with_reducible refine aN 79 (.tmp 2) ?_);refine ldD V0.out ?_)
  | ((with_reducible refine ar 79 (.tmp 4) _ ?_);refine stD V1.out ?_;intro w9 X u))
 have hgw1:w.heap.size+1<N.heap.size:=q;refine kqo (v:=.tuple #[.agg #[.slice O n P,.slice t dw.length r,.int .i64 l2,.bool dn],.int .i64 0]) (bg results182 _ X.out rfl rfl rfl) rfl ⟨⟨_,rfl,by
  rw[HV.out];exact⟨O,P,t,r,by rw[B.out,Kq.out],by rw[B.out];exact Kl,by rw[B.out];exact ao (ap VO.out u.out q) f.out.size,by rw[Kq.out];exact ao (ap Lf.out u.out q) f.out.size⟩⟩,u.out.below VB.out (by omega)⟩
end Go.Proofs.YtpcajamacpbjcaaGreat
