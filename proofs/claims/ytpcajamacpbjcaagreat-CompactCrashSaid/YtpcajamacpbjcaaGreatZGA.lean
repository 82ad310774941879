/- Entries of a change: what the program and the reference return. -/
import Derived.Test.YtpcajamacpbjcaaGreatZKEff
import Derived.Test.YtpcajamacpbjcaaGreatZKLy1
import Derived.Test.YtpcajamacpbjcaaGreatZKHead
import Derived.Test.YtpcajamacpbjcaaGreatZKRef15
import Derived.Test.YtpcajamacpbjcaaGreatZKMove
import Derived.Test.YtpcajamacpbjcaaGreatZKStg1
set_option maxHeartbeats 16000000
set_option maxRecDepth 100000
set_option linter.all false
namespace Go.Proofs.YtpcajamacpbjcaaGreat
open Lib (hid)
open Go.RowKit Go.Maps
variable {fn:Func}{a b w ws:Int}{ad:List Int}{H g k n:Nat}{p:Tmp}{t:TypeId}{v:Value}{W w':World}
open Go.Proofs.Tryz
def Cs (x w:Int):Bool:=decide (16<=x)&&(decide (x<w)&&(decide (x<24)||decide (96<=x)))
def eC (ad:List Int) (w:Int):Nat->Bool
 | 0=>true
 | k+1=>eC ad w k&&(Cs (ad[k]?.getD 0) w && !cJ ad (ad[k]?.getD 0) k)
def eh (ad:List Int) (w:Int):Int:=if aj w=true then (if 32<ad.length then 4 else if eC ad w ad.length=true then 0 else 8) else 2
theorem m9(h:eC ad w n=true)(hk:k<=n):eC ad w k=true:=by
 induction n with
 | zero =>
  have:k=0:=by omega
  subst this;exact h
 | succ n ih =>
  rcases kq6 k (n+1) with a|a
  .simp only[eC,kqt] at h;exact ih h.1 (by omega)
  have:k=n+1:=by omega
  subst this;exact h
theorem xg(h:aj w=false):eh ad w=2:=by simp[eh,h]
theorem sS(h:aj w=true)(h2:32<ad.length):eh ad w=4:=by simp[eh,h,h2]
theorem ou(h:aj w=true)(h2:ad.length<=32)(hk:eC ad w k=false)(hn:k<=ad.length):eh ad w=8:=by
 have a:eC ad w ad.length=false:=by
  cases b:eC ad w ad.length with
  | false=>rfl
  | true=>rw[m9 b hn] at hk;cases hk
 have c:¬ 32<ad.length:=by omega
 simp[eh,h,a,c]
theorem rn(h:aj w=true)(h2:ad.length<=32)(h3:eC ad w ad.length=true):eh ad w=0:=by
 have a:¬ 32<ad.length:=by omega
 simp[eh,h,h3,a]
theorem sY(h:eh ad w=0):aj w=true/\ad.length<=32/\eC ad w ad.length=true:=by
 unfold eh at h;split at h
 .split at h
  .simp at h
  split at h
  .exact ⟨by assumption,by omega,by assumption⟩
  simp at h
 simp at h
theorem pv(x w:Int):Cs x w=true↔16<=x/\x<w/\(x<24\/96<=x):=by simp[Cs]
theorem zn(h:eC ad w n=true)(hk:k<n):Cs (ad[k]?.getD 0) w=true/\cJ ad (ad[k]?.getD 0) k=false:=by have:=m9 h (show k+1<=n from hk);simp only[eC,kqt,kx2] at this;exact this.2
theorem yI(h:Cs (ad[k]?.getD 0) w=false):eC ad w (k+1)=false:=by simp[eC,h]
theorem rD(h:cJ ad (ad[k]?.getD 0) k=true):eC ad w (k+1)=false:=by simp[eC,h]
theorem og(h0:eC ad w k=true)(h:Cs (ad[k]?.getD 0) w=true)(h2:cJ ad (ad[k]?.getD 0) k=false):eC ad w (k+1)=true:=by simp[eC,h0,h,h2]
def pT (n:Int):Int:=if aj n=true then 0 else 2
theorem uj{n:Int}(h:aj n=true):pT n=0:=by simp[pT,h]
theorem mr{n:Int}(h:aj n=false):pT n=2:=by simp[pT,h]
theorem ng(n:Int)(w:World):Calls prog 218 #[.int .i64 n] w λe w'=>e=.returned (.int .i64 (pT n))/\w=w':=by
 by_cases c:n<256
 .have H:Hid (pT n=2):=hid (mr (by simp[aj];omega));go_enter func218,ntmps218;go_wp2;go_ret;exact⟨by rw[H.out];rfl,rfl⟩
 have h3:256<=n:=by omega
 clear c;by_cases b:2048<n
 .have H:Hid (pT n=2):=hid (mr (by simp[aj];omega));go_enter func218,ntmps218;go_wp2;go_ret;exact⟨by rw[H.out];rfl,rfl⟩
 have h4:n<=2048:=by omega
 clear b;by_cases a:n%8=0
 .have H:Hid (pT n=0):=hid (uj (by simp[aj];omega));have d:(n%8 != 0)=false:=by rw[kqq];exact a
  clear a;go_enter func218,ntmps218;go_wp2;go_ret;exact⟨by rw[H.out];rfl,rfl⟩
 have H:Hid (pT n=2):=hid (mr (by simp[aj];omega));have d:(n%8 != 0)=true:=by rw[kqv];exact a
 clear a;go_enter func218,ntmps218;go_wp2;go_ret;exact⟨by rw[H.out];rfl,rfl⟩
theorem Ey(x n:Int)(w:World):Calls prog 219 #[.int .i64 x,.int .i64 n] w λe w'=>e=.returned (.bool (Cs x n))/\w=w':=by
 have H:Hid (∀b:Bool,(b=true↔16<=x/\x<n/\(x<24\/96<=x))->b=Cs x n):=hid λb h=>by rw[kzg,pv];exact h
 go_enter func219,ntmps219;go_wp2_with fail
 all_goals
  go_ret;exact⟨ji (H.out _ (by simp;omega)),rfl⟩
def Eo (B:Nat) (w:World) (g:Nat) (ad:List Int) (k:Nat):Prop:=
 (k=0/\Bx w g 278 #[.map none])\/(∃b,B<=b/\Bx w g 278 #[.map (some b)]/\w.ownsMap prog 3 (plainElem prog 4) b k (fg ad k))
def FU (B:Nat) (g:Nat) (ad:List Int) (k:Nat) (r:Bool) (w:World) (e:Ending) (w':World):Prop:=e=.returned (.bool r)/\Eo B w' g ad (k+1)/\Below B w w'/\(∀h t cs,Bx w h t cs->h≠g->Bx w' h t cs)
theorem add_c(B g:Nat)(ad:List Int)(k:Nat)(x:Int)(w:World)(hx:ad[k]?.getD 0=x)(hxb : -9223372036854775808<=x/\x<=9223372036854775807)(hk:k<=1000000)(hBg:B<=g)(hs:Eo B w g ad k):
 Calls prog 220 #[.pointer (some ⟨g,0,none⟩),.int .i64 x] w (FU B g ad k (!cJ ad x k) w):=by
 have o:(Lit.int .i64 x).wf=true:=by simp[Lit.wf,IntKind.min,IntKind.max,IntKind.signed,IntKind.bits];omega
 have v:=hid (keyOf_int_mk (P:=prog) underlying3 o);have HX:=hid hx;have I:=hid (show fg ad (k+1)=(fg ad k).put (.int .i64 x) (.lit (.bool true)) by simp only[fg,hx]);have l:=hid (nH ad x k);obtain⟨r,G⟩:=xq (cJ ad x k);rw[G] at l |-;clear hx o G hxb;rcases hs with⟨E,n⟩|⟨b,u,n,d⟩
 .subst E;obtain⟨K,c1,L⟩:=n.c1;have s:=λW:World=>run_eql_map_nil (P:=prog) W 161 3 4 none underlying161;have e:=hid n;clear n;have hmm:=@run_makeMap prog;have i:((w.setCell ⟨g,0,none⟩ (.map (some w.heap.size))).alloc (Obj.map #[] 0)).ownsMap prog 3 (plainElem prog 4) w.heap.size 0 (fg ad 0):=by have:=World.ownsMap_made (H:=Unit) (w.setCell ⟨g,0,none⟩ (.map (some w.heap.size))) prog 3 (plainElem prog 4);rwa [kxb] at this
  have z:=iI i mO underlying161 underlying4 (ms _) v.out l.out;have f:=hid i;have q:=hid (((e.out.set_ 0 (.map (some w.heap.size)))).alloc (Obj.map #[] 0));have A:=hid ((((kql B w).setCell (p:=⟨g,0,none⟩) hBg (.map (some w.heap.size)))).alloc (by simp;omega) (Obj.map #[] 0));clear i;go_enter func220,ntmps220;go_wp2_with (at_mapUpdate;refine wpList_mapUpdate_own _ rfl _ _ _ 161 rfl 3 4 mO underlying161 _ w.heap.size 0 _ rfl f.out (by simp[maxLen]) _ _ _ rfl rfl v.out (.lit (.bool true)) [] (plainElem_bool underlying4 true) ?_;intro J a c);go_ret;have m:=A.out.grown c (by simp;omega) (λj D=>by cases D;omega);refine⟨rfl,.inr ⟨w.heap.size,by omega,q.out.grown c (fW q.out f.out),by rw[I.out];exact a⟩,m,λh t cs y C=>?_⟩;have F:=(y.far (p:=⟨g,0,none⟩) C (.map (some w.heap.size))).alloc (Obj.map #[] 0);exact F.grown c (fW F f.out)
 obtain⟨K,c1,L⟩:=n.c1;have z:=iI d mO underlying161 underlying4 (ms w) v.out l.out;have s:=λW:World=>run_eql_map_nil (P:=prog) W 161 3 4 (some b) underlying161;have e:=hid n;clear n;go_enter func220,ntmps220;go_wp2_with (at_mapUpdate;refine wpList_mapUpdate_own _ rfl _ _ _ 161 rfl 3 4 mO underlying161 _ b k _ rfl d (by unfold maxLen;omega) _ _ _ rfl rfl v.out (.lit (.bool true)) [] (plainElem_bool underlying4 true) ?_;intro J a c);go_ret;have m:Below B w J:=(kql B w).grown c (by omega) (λj D=>by cases D;exact u);exact⟨rfl,.inr ⟨b,u,e.out.grown c (fW e.out d),by rw[I.out];exact a⟩,m,λh t cs y _=>y.grown c (fW y d)⟩
theorem Ex{l:List En}(ho:∀e∈l,e.ok)(hk:k<l.length): -9223372036854775808<=(cE l)[k]?.getD 0/\(cE l)[k]?.getD 0<=9223372036854775807:=by rw[fd l k hk];have:=ho l[k] (kqp hk);exact⟨this.1,this.2.1⟩
theorem xR(A:Option Addr)(l:List En)(c n:Nat)(ws:Int)(w:World)(hn:l.length=n)(hm:n<=9223372036854775807)(hr:RdE w w.heap.size A l)(ho:∀e∈l,e.ok):
 Calls prog 170 #[.slice A n c,.int .i64 ws] w λe w'=>e=.returned (.int .i64 (eh (cE l) ws))/\Below w.heap.size w w':=by
 subst hn;have V:=hid hr;have W:=hid ho;clear hr ho;cases y:aj ws
 .have D:=hid (xg (ad:=cE l) y);have H:=hid (mr y);clear y;go_enter func170,ntmps170;go_wp2_with fail;refine (ng ws w).mono ?_;rintro e K ⟨rfl,rfl⟩;rw[H.out];go_wp2;go_ret;exact⟨by rw[D.out];rfl,kql _ _⟩
 have I:=hid y;have H:=hid (uj y);clear y;by_cases B:32<l.length
 .have D:=hid (sS (ad:=cE l) I.out (by rw[da];exact B));go_enter func170,ntmps170;go_wp2_with fail;refine (ng ws w).mono ?_;rintro e K ⟨rfl,rfl⟩;rw[H.out];go_wp2;go_ret;exact⟨by rw[D.out];rfl,kql _ _⟩
 have r:l.length<=32:=by omega
 have hgt:decide ((32:Int)<(l.length:Int))=false:=by rw[kqh];omega
 clear B;go_enter func170,ntmps170;go_wp2_with fail;refine (ng ws w).mono ?_;rintro e K ⟨rfl,rfl⟩;rw[H.out];go_wp2_with fail;go_loopw [19] (λi wr=>∃k:Nat,k<=l.length/\i=.int .i64 k/\eC (cE l) ws k=true/\Eo w.heap.size wr w.heap.size (cE l) k/\Below w.heap.size w wr) (λi _=>l.length-(intOf i).toNat)
 case atStart=>exact⟨0,kqy _,rfl,rfl,.inl ⟨rfl,Bx.new w _ _⟩,(kql _ _).alloc (kqd _) _⟩
 obtain⟨k,hk,rfl,g,s,t⟩:=hrel;have T:=t.size;by_cases a:k<l.length
 .obtain ⟨b,G,rfl,S,J,u⟩:=V.out.at_ a;replace J:=(t.cell (p:=⟨b,G+k*2,none⟩) S).trans J;replace u:=(t.cell (p:=⟨b,G+k*2+1,none⟩) S).trans u;have q:=Ex W.out a;rw[<-fd l k a] at J;obtain⟨x,O⟩:=xq ((cE l)[k]?.getD 0);rw[O] at J q;have L:=hid g;have E:=hid O;have M:=hid q;have ik1:(0:Int)<=(k:Int):=by omega
  have ik2:(k:Int)<(l.length:Int):=by omega
  have o:Eo w.heap.size (wr.alloc (.cells #[.int .i64 x,.int .u64 (l[k].v:Int)] 89)) w.heap.size (cE l) k:=by
   rcases s with⟨u,Q⟩|⟨m,u,Q,U⟩
   .exact .inl ⟨u,Q.alloc _⟩
   exact .inr ⟨m,u,Q.alloc _,U.alloc _⟩
  have R:=hid o;clear g O s o q;go_wp2_with fail;refine (Ey x ws _).mono ?_;rintro e K ⟨rfl,rfl⟩;cases h:Cs x ws
  .have d:=hid (ou I.out (by rw[da];exact r) (k:=k+1) (yI (by rw[E.out];exact h)) (by rw[da];exact a));clear h;go_wp2;go_ret;exact⟨by rw[d.out];rfl,t.alloc T _⟩
  have N:=hid h;clear h;go_wp2_with fail;refine (add_c w.heap.size w.heap.size (cE l) k x _ E.out M.out (by omega) (kqd _) R.out).mono ?_;rintro e K ⟨rfl,f,P,-⟩;have F:=(t.alloc T (.cells #[.int .i64 x,.int .u64 (l[k].v:Int)] 89)).trans P;cases j:cJ (cE l) x k
  .have z:=hid (og L.out (by rw[E.out];exact N.out) (by rw[E.out];exact j));clear j;have C:=hid f;clear f;go_wp2;go_roundw
   case rel=>exact⟨k+1,by omega,by go_num,z.out,C.out,F⟩
   case measure=>simp[intOf];omega
  have d:=hid (ou I.out (by rw[da];exact r) (k:=k+1) (rD (by rw[E.out];exact j)) (by rw[da];exact a));clear j f;go_wp2;go_ret;exact⟨by rw[d.out];rfl,F⟩
 obtain rfl:k=l.length:=by omega
 have D:=hid (rn I.out (by rw[da];exact r) (by rw[da];exact g));clear s g;go_wp2;go_ret;exact⟨by rw[D.out];rfl,t⟩
def cn:List En->List Nat
 | []=>[]
 | e::l=>e.a.toNat::e.v::cn l
def dZ (l:List En) (ws:Int):List Nat:=if eh (cE l) ws=0 then cn l else []
theorem ib(l:List En):(cn l).length=2*l.length:=by
 induction l with
 | nil=>rfl
 | cons e l ih=>simp only[cn,kq2,ih];omega
theorem vZ(l:List En)(e:En):cn (l++[e])=cn l++[e.a.toNat,e.v]:=by
 induction l with
 | nil=>rfl
 | cons x l ih=>simp[cn,ih]
def B8 (H:Nat) (l:List En) (ws:Int) (e:Ending) (w':World):Prop:=∃A c,e=.returned (.tuple #[.slice A (dZ l ws).length c,.int .i64 (eh (cE l) ws)])/\w'.ownsRow H 53 1 (.slice A (dZ l ws).length c) (dZ l ws).length ((dZ l ws).flatMap ab)
theorem ri{M:Nat}{l:List En}(h0:eh (cE l) ws=0)(hn:n=2*l.length)(h:w'.ownsRow M 53 1 v n ((cn l).flatMap ab))(hH:H<=M):B8 H l ws (.returned (.tuple #[v,.int .i64 0])) w':=by
 have a:dZ l ws=cn l:=by simp[dZ,h0]
 have b:(dZ l ws).length=n:=by rw[a,ib,hn]
 obtain⟨A,c,rfl⟩:=aJ h;refine⟨A,c,by rw[b,h0],?_⟩;rw[b,a];exact ao h hH
theorem EP{l:List En}{r:Int}(hr:eh (cE l) ws=r)(h0:r≠0):B8 H l ws (.returned (.tuple #[.slice none 0 0,.int .i64 r])) w':=by
 subst hr;have:dZ l ws=[]:=by simp[dZ,h0]
 exact⟨none,0,by rw[this];rfl,by rw[this];exact kq8 _ _ _ _⟩
theorem BL(w:World)(cs:List Value)(t:TypeId)(h:w.heap.size=H):∀j u,cs[j]? = some u->(w.alloc (.cells cs.toArray t)).cell? ((⟨H,0,none⟩:Addr).add j)=some u:=by subst h;exact cC w cs t
theorem oU(A:Option Addr)(l:List En)(c n:Nat)(ws:Int)(w:World)(hn:l.length=n)(hm:n<=9223372036854775807)(q:RdE w w.heap.size A l)(ho:∀e∈l,e.ok):
 Calls prog 124 #[.slice A n c,.int .i64 ws] w λe w'=>B8 w.heap.size l ws e w'/\Below w.heap.size w w':=by
 subst hn;have U:=hid q;have W:=hid ho;clear q ho;obtain⟨i0,S,f,z,B⟩:=kzv mC;have X:=hid S;have H:=hid f;have K:=hid z;have J:=hid B;clear S f z B;go_enter func124,ntmps124;go_wp2_with fail;refine (xR A l c l.length ws w rfl hm U.out W.out).mono ?_;rintro e G ⟨rfl,m⟩;have f:=m.size;by_cases g:eh (cE l) ws=0
 .obtain ⟨R,L,o⟩:=sY g;rw[da] at L;have HE:=hid g;have Y:=hid o;have hw2:=((aa ws).1 R).2.1;rw[g];clear g o R;go_wp2_with fail;go_loopw [7,18] (λv i wr=>∃k:Nat,k<=l.length/\i=.int .i64 k/\wr.ownsRow G.heap.size 53 1 v (2*k) ((cn (l.take k)).flatMap ab)/\Below G.heap.size G wr) (λ_ i _=>l.length-(intOf i).toNat)
  case atStart=>exact⟨0,kqy _,rfl,kq8 _ _ _ _,kql _ _⟩
  obtain⟨k,hk,rfl,d,F⟩:=hrel;have hz:=F.size;by_cases h:k<l.length
  .obtain ⟨b,E,rfl,T,g,t⟩:=U.out.at_ h;have u:=m.trans (F.mono f);replace g:=(u.cell (p:=⟨b,E+k*2,none⟩) T).trans g;replace t:=(u.cell (p:=⟨b,E+k*2+1,none⟩) T).trans t;have j:=(pv _ _).1 (zn Y.out (show k<(cE l).length by rw[da];exact h)).1;rw[fd l k h] at j;have y:=(W.out l[k] (kqp h)).2.2;have V:Hid (∀x v,l[k].a=x->l[k].v=v->0<=x->(cn (l.take (k+1))).flatMap ab=(cn (l.take k)).flatMap ab++[.int .u64 x,.int .u64 (v:Int)]):=hid λx v t h2 Z=>by
    rw[kqo h,vZ,kxi,t,h2];simp only[kzy,List.flatMap_nil,ab,kzs,kzq,kz2];rw[kj7 Z]
   obtain⟨x,Q⟩:=xq (l[k].a);obtain⟨v,M⟩:=xq (l[k].v);have C:=V.out x v Q M;rw[Q] at g j;rw[M] at t y;obtain⟨m1,m2,-⟩:=j;have N:0<=x:=by omega
   have hx1:x<=2048:=by omega
   have I:=hid (C N);have hv0:(0:Int)<=(v:Int):=by omega
   have ik1:(0:Int)<=(k:Int):=by omega
   have ik2:(k:Int)<(l.length:Int):=by omega
   clear V C Q M m1 m2 y;go_wp2_with (at_builtin;refine kzd _ rfl _ _ 22 rfl G.heap.size 53 i0 _ 1 8 underlying22 X.out H.out K.out J.out rfl (by decide) _ _ _ rfl ((d.alloc _).alloc _) ⟨_,0,none⟩ 2 2 [.int .u64 x,.int .u64 (v:Int)] rfl rfl (BL _ _ _ (kqm _ _)) (by simp[Value.oneCell']) (by unfold maxLen;omega) (by omega) (by simp;omega) ?_;intro v1 w1 s O _);have P:=aC (F.alloc hz (.cells #[.int .i64 x,.int .u64 (v:Int)] 89)) (by simp;omega) (d.alloc _) O;go_roundw
   case rel=>exact⟨k+1,by omega,by go_num,by rw[I.out,show 2*(k+1)=2*k+2 by omega];exact s,P⟩
   case measure=>simp[intOf];omega
  obtain rfl:k=l.length:=by omega
  rw[kzn] at d;go_wp2;go_ret2;exact⟨ri HE.out rfl d f,m.trans (F.mono f)⟩
 have HX:=hid g;obtain⟨r,q⟩:=xq (eh (cE l) ws);have hn1:(r==0)=false:=by rw[<-q,kqi];exact g
 have hn2:(r != 0)=true:=by rw[<-q,kqv];exact g
 have D:=hid q;rw[q];clear g q;go_wp2;go_ret2;exact⟨EP D.out (by rw[<-D.out];exact HX.out),m⟩
def lq (cs:Array Value) (ad:List Int) (n:Nat):Prop:=cs.size=256/\∀i,i<256->cs[i]? = some (.bool (dy ad (8*(i:Int)) n))
theorem zg{cs:Array Value}{x:Nat}(h:lq cs ad k)(hx:ad[k]?.getD 0=(x:Int)):lq (cs.setIfInBounds (x/8) (.bool true)) ad (k+1):=by
 refine⟨by rw[kko];exact h.1,λi a=>?_⟩;rw[kx5];simp only[dy,hx];by_cases e:x/8=i
 .subst e;rw[if_pos rfl,if_pos (by rw[h.1];exact a)];have:((x:Int)/8==8*((x/8:Nat):Int)/8)=true:=by rw[kqw];omega
  rw[this,Bool.or_true]
 have:((x:Int)/8==8*(i:Int)/8)=false:=by rw[kqi];omega
 rw[if_neg e,h.2 i a,this,kvt]
def jY:Array Value:=Array.replicate 256 (.bool false)
theorem uz(w:World):(zeroValue 156).run prog w=.ok (.agg jY) w:=by kernel_rfl
theorem lines0(ad:List Int):lq jY ad 0:=⟨by simp[jY],λi a=>by simp[jY,a,dy]⟩
def LnRes (ad:List Int) (n:Nat) (e:Ending):Prop:=∃cs,e=.returned (.agg cs)/\lq cs ad n
theorem Hl(A:Option Addr)(l:List En)(c n:Nat)(w:World)(hn:l.length=n)(hm:n<=9223372036854775807)(hr:RdE w w.heap.size A l)(ho:∀k,k<l.length->0<=(cE l)[k]?.getD 0/\(cE l)[k]?.getD 0<2048):
 Calls prog 181 #[.slice A n c] w λe w'=>LnRes (cE l) n e/\Below w.heap.size w w':=by
 subst hn;have G:=hid hr;have I:=hid ho;clear hr ho;have hzv:=uz;go_enter func181,ntmps181;go_wp2_with fail;go_loopw [7] (λi wr=>∃(k:Nat) (cs:Array Value),k<=l.length/\i=.int .i64 k/\lq cs (cE l) k/\Bx wr w.heap.size 156 cs/\Below w.heap.size w wr) (λi _=>l.length-(intOf i).toNat)
 case atStart=>exact⟨0,_,kqy _,rfl,lines0 _,Bx.new w _ _,(kql _ _).alloc (kqd _) _⟩
 obtain⟨k,cs,hk,rfl,a,f,q⟩:=hrel;have hz:=q.size;by_cases m:k<l.length
 .obtain ⟨b,s,rfl,E,t,C⟩:=G.out.at_ m;replace t:=(q.cell (p:=⟨b,s+k*2,none⟩) E).trans t;replace C:=(q.cell (p:=⟨b,s+k*2+1,none⟩) E).trans C;obtain⟨D,F⟩:=I.out k m;rw[<-fd l k m] at t;obtain⟨x,B⟩:=kq1 D;rw[B] at t D F;have H:=hid B;have u:x/8<256:=by omega
  have g:=f.cell (x/8);rw[a.2 _ u] at g;have hfr:=f.frozen (x/8);have hlt2:=f.lt;have j:=hid a;have d:=hid f;have ik1:(0:Int)<=(k:Int):=by omega
  have ik2:(k:Int)<(l.length:Int):=by omega
  clear B a f;go_wp2_with fail;refine⟨⟨k+1,_,by omega,by go_num,zg j.out H.out,(d.out.set_ (x/8) (.bool true)).alloc _,(q.setCell (p:=⟨w.heap.size,x/8,none⟩) (kqd _) _).alloc (by simp;omega) _⟩,?_⟩;simp[intOf];omega
 obtain rfl:k=l.length:=by omega
 have r:(prog.info? 156).map (·.size)=some cs.size:=by rw[a.1];kernel_rfl
 have y:cs.all (·.oneCell')=true:=by rw[kkz];intro i r;have h:=a.2 i (by have:=a.1;omega);rw[kjh r] at h;injection h with h;rw[h];rfl
 have o:=hid (pw f);have z:=jC f;have j:=hid a;have d:=hid f;clear a f;go_wp2_with (first
  | (refine kxf rfl _ _ rfl w.heap.size (by rfl) 156 cs (0,0) _ d.out underlying156 (by rfl) r ?_)
  | (refine kjo rfl _ _ _ rfl w.heap.size 0 cs (by rfl) (by rfl) z r y ?_;rw[o.out]))
 refine kqr (v:=.agg cs) (results_cell_row rfl _ _ w.heap.size _ cs (0,0) _ (by rfl) d.out underlying156 (by rfl) r) rfl ⟨⟨cs,rfl,j.out⟩,q⟩
open Go.RowKit
structure Dw where
 a:Int
 v:Nat
 f:Bool
 deriving DecidableEq,Inhabited
variable {l:List Dw}
def Dw.cells (x:Dw):List Value:=[.int .i64 x.a,.int .u64 (x.v:Int),.bool x.f]
theorem Dw.len(x:Dw):x.cells.length=3:=rfl
theorem Dw.one:∀x:Dw,∀u∈x.cells,u.oneCell'=true:=λx u a=>by unfold Dw.cells at a;simp only[kqx,kzf,or_false] at a;rcases a with rfl|rfl|rfl<;>rfl
structure Dv where
 im:List Nat
 dw:List Dw
 left:Int
 down:Bool
 deriving DecidableEq,Inhabited
variable {d:Dv}
def iu (n:Nat):List Dw->Int->Bool
 | [],_=>true
 | e::l,b=>decide (b<e.a)&&(decide (e.a<(n:Int))&&iu n l e.a)
def eW (d:Dv):Bool:=aj (d.im.length:Int)&&(decide (-1<=d.left)&&(decide (d.left<=1000000)&&((!d.down||d.left==0)&&iu d.im.length d.dw (-1))))
def ff (d:Dv):Int:=if eW d=true then 0 else 8
def kn (x:List Nat) (l:List Dw):List Nat:=l.foldl (λx e=>x.set e.a.toNat e.v) x
def dvV (d:Dv):List Nat:=kn d.im d.dw
def dec (l:Int):Int:=if 0<l then l-1 else l
def stQ:List Dw->Int->Nat->List Dw
 | [],a,v=>[⟨a,v,false⟩]
 | e::l,a,v=>if e.a<a then e::stQ l a v else if e.a=a then ⟨a,v,false⟩::l else ⟨a,v,false⟩::e::l
def flB (a:Int) (e:Dw):Dw:=if e.a/8=a/8 then { e with f:=true } else e
def flQ (a:Int) (l:List Dw):List Dw:=l.map (flB a)
def fnI (x:List Nat) (l:List Dw):List Nat:=kn x (l.filter (·.f))
def fnQ (l:List Dw):List Dw:=l.filter λe=>!e.f
def dvD (d:Dv):Dv:={ d with down:=true }
def dvS (d:Dv) (a:Int) (v:Nat):Dv:=if d.left=0 then dvD d else { d with dw:=stQ d.dw a v,left:=dec d.left }
def dvF (d:Dv) (a:Int):Dv:=if d.left=0 then dvD d else { d with dw:=flQ a d.dw,left:=dec d.left }
def dvN (d:Dv):Dv:=if d.left=0 then dvD d else { d with im:=fnI d.im d.dw,dw:=fnQ d.dw,left:=dec d.left }
def nP (d:Dv) (l:List En):Dv:=l.foldl (λd e=>dvS d e.a e.v) d
def kM (ad:List Int) (d:Dv):Nat->Dv
 | 0=>d
 | k+1=>if dy ad (8*(k:Int)) ad.length=true then dvF (kM ad d k) (8*(k:Int)) else kM ad d k
def rpP (d:Dv) (l:List En):Dv:=dvN (kM (cE l) (nP d l) 256)
def lsE (a:Int):List Nat->List En
 | []=>[]
 | v::l=>⟨a,v⟩::lsE (a+1) l
def cmW (l:List En):Nat:=(aS 14695981039346656037 (cn l)%288230376151711744)*64+l.length
def atM (d:Dv) (l:List En):Dv:=if l=[] then d else rpP (rpP (rpP (rpP d (lsE 32 (cn l))) [⟨24,cmW l⟩]) l) [⟨24,0⟩]
def atErr (d:Dv) (l:List En):Int:=if ff d=0 then (if eh (cE l) (d.im.length:Int)=0 then (if wd (dvV d) 24=0 then 0 else 8) else eh (cE l) (d.im.length:Int)) else ff d
theorem my:∀(l:List Dw) (x:List Nat),(kn x l).length=x.length:=by
 intro l
 induction l with
 | nil=>intro x;rfl
 | cons e l ih=>intro x;show (kn (x.set e.a.toNat e.v) l).length=_;rw[ih,kq4]
theorem bH(d:Dv):eW d=true↔aj (d.im.length:Int)=true /\ -1<=d.left/\d.left<=1000000/\(d.down=true->d.left=0)/\iu d.im.length d.dw (-1)=true:=by
 unfold eW;simp only[kqt,kzc,kxv,kx2,kqw];constructor
 .rintro ⟨c,b,f,a,e⟩;refine⟨c,b,f,λh=>?_,e⟩;rcases a with a|a
  .rw[a] at h;cases h
  exact a
 rintro ⟨c,b,f,a,e⟩;refine⟨c,b,f,?_,e⟩;cases g:d.down with
 | false=>exact .inl rfl
 | true=>exact .inr (a g)
theorem oM(h:ff d=0):eW d=true:=by
 unfold ff at h;split at h
 .assumption
 cases h
theorem jH(h:eW d=true):ff d=0:=by unfold ff;rw[if_pos h]
theorem AR{b':Int}(h:iu n l b=true)(hb:b'<=b):iu n l b'=true:=by
 cases l with
 | nil=>rfl
 | cons e l =>simp only[iu,kqt,kzc] at h |-;exact⟨by omega,h.2⟩
theorem fL :∀ {l:List Dw} {b:Int},iu n l b=true->∀e∈l,b<e.a/\e.a<(n:Int):=by
 intro l
 induction l with
 | nil=>intro b _ e c;exact absurd c (by simp)
 | cons x l ih =>
  intro b h e c;simp only[iu,kqt,kzc] at h;rcases kqx.1 c with rfl|c
  .exact ⟨h.1,h.2.1⟩
  have:=ih h.2.2 e c;omega
theorem stQ_to{v:Nat}(ha:a<(n:Int)):∀ {l:List Dw} {b:Int},iu n l b=true->b<a->iu n (stQ l a v) b=true:=by
 intro l
 induction l with
 | nil=>intro b _ c;simp[stQ,iu];omega
 | cons e l ih =>
  intro b h c;simp only[iu,kqt,kzc] at h;unfold stQ;by_cases f:e.a<a
  .rw[if_pos f];simp only[iu,kqt,kzc];exact⟨h.1,h.2.1,ih h.2.2 f⟩
  rw[if_neg f];by_cases d:e.a=a
  .rw[if_pos d];simp only[iu,kqt,kzc];exact⟨c,ha,by rw[<-d];exact h.2.2⟩
  rw[if_neg d];simp only[iu,kqt,kzc];exact⟨c,ha,by omega,h.2.1,h.2.2⟩
theorem flQ_to :∀ {l:List Dw} {b:Int},iu n (flQ a l) b=iu n l b:=by
 intro l
 induction l with
 | nil=>intro b;rfl
 | cons e l ih =>
  intro b;have c:(flB a e).a=e.a:=by unfold flB;split<;>rfl
  show (decide (b<(flB a e).a)&&(decide ((flB a e).a<(n:Int))&&iu n (flQ a l) (flB a e).a))=_;rw[c,ih];rfl
theorem zf{p:Dw->Bool}:∀ {l:List Dw} {b:Int},iu n l b=true->iu n (l.filter p) b=true:=by
 intro l
 induction l with
 | nil=>intro b _;rfl
 | cons e l ih =>
  intro b h;simp only[iu,kqt,kzc] at h;rw[kjn];split
  .simp only[iu,kqt,kzc];exact⟨h.1,h.2.1,ih h.2.2⟩
  exact AR (ih h.2.2) (by omega)
theorem Aw{l:Int}(h1 : -1<=l)(h2:l<=1000000): -1<=dec l/\dec l<=1000000:=by unfold dec;split<;>omega
theorem At(h:eW d=true)(h0:d.left=0):eW (dvD d)=true:=by rw[bH] at h |-;exact⟨h.1,h.2.1,h.2.2.1,λ_=>h0,h.2.2.2.2⟩
theorem uq{v:Nat}(h:eW d=true)(h0:0<=a)(ha:a<(d.im.length:Int)):eW (dvS d a v)=true:=by
 unfold dvS;by_cases b:d.left=0
 .rw[if_pos b];exact At h b
 rw[if_neg b];rw[bH] at h |-;obtain⟨e,f⟩:=Aw h.2.1 h.2.2.1;exact⟨h.1,e,f,λc=>absurd (h.2.2.2.1 c) b,stQ_to ha h.2.2.2.2 (by omega)⟩
theorem E7(h:eW d=true):eW (dvF d a)=true:=by
 unfold dvF;by_cases b:d.left=0
 .rw[if_pos b];exact At h b
 rw[if_neg b];rw[bH] at h |-;obtain⟨e,f⟩:=Aw h.2.1 h.2.2.1;exact⟨h.1,e,f,λc=>absurd (h.2.2.2.1 c) b,by dsimp only;rw[flQ_to];exact h.2.2.2.2⟩
theorem E6(h:eW d=true):eW (dvN d)=true:=by
 unfold dvN;by_cases b:d.left=0
 .rw[if_pos b];exact At h b
 rw[if_neg b];rw[bH] at h |-;obtain⟨f,c⟩:=Aw h.2.1 h.2.2.1;have a:(fnI d.im d.dw).length=d.im.length:=my _ _;refine⟨by dsimp only;rw[a];exact h.1,f,c,λe=>absurd (h.2.2.2.1 e) b,?_⟩;dsimp only;rw[a];exact zf h.2.2.2.2
theorem qE(d:Dv)(a:Int)(v:Nat):(dvS d a v).im=d.im:=by unfold dvS dvD;split<;>rfl
theorem Fj(d:Dv)(a:Int):(dvF d a).im=d.im:=by unfold dvF dvD;split<;>rfl
theorem zx(d:Dv):(dvN d).im.length=d.im.length:=by
 unfold dvN dvD;split
 .rfl
 exact my _ _
theorem sM:∀(l:List En) (d:Dv),(nP d l).im=d.im:=by
 intro l
 induction l with
 | nil=>intro d;rfl
 | cons e l ih=>intro d;show (nP (dvS d e.a e.v) l).im=_;rw[ih,qE]
theorem sr(ad:List Int)(d:Dv):∀k,(kM ad d k).im=d.im:=by
 intro k
 induction k with
 | zero=>rfl
 | succ k ih =>
  unfold kM;split
  .rw[Fj,ih]
  exact ih
theorem lz(d:Dv)(l:List En):(rpP d l).im.length=d.im.length:=by unfold rpP;rw[zx,sr,sM]
theorem li:∀(l:List En) {d:Dv},eW d=true->(∀e∈l,0<=e.a/\e.a<(d.im.length:Int))->eW (nP d l)=true:=by
 intro l
 induction l with
 | nil=>intro d h _;exact h
 | cons e l ih =>intro d h c;have b:=c e (by simp);exact ih (d:=dvS d e.a e.v) (uq h b.1 b.2) λx f=>by rw[qE];exact c x (by simp[f])
theorem kh(h:eW d=true):∀k,eW (kM ad d k)=true:=by
 intro k
 induction k with
 | zero=>exact h
 | succ k ih =>
  unfold kM;split
  .exact E7 ih
  exact ih
theorem oD{l:List En}(h:eW d=true)(he:∀e∈l,0<=e.a/\e.a<(d.im.length:Int)):eW (rpP d l)=true:=E6 (kh (li l h he) _)
def RdQ (w:World) (B:Nat) (A:Option Addr) (l:List Dw):Prop:=Rd w B A (l.flatMap Dw.cells)
theorem RdQ.at_{w:World}{B:Nat}{A:Option Addr}(h:RdQ w B A l)(hk:k<l.length):
 ∃b c,A=some ⟨b,c,none⟩/\b<B/\w.cell? ⟨b,c+k*3,none⟩=some (.int .i64 l[k].a)/\w.cell? ⟨b,c+k*3+1,none⟩=some (.int .u64 (l[k].v:Int))/\w.cell? ⟨b,c+k*3+2,none⟩=some (.bool l[k].f):=by obtain⟨b,c,e,g,d⟩:=Rd.at_flat Dw.len h (by omega) hk;exact⟨b,c,e,g,d 0 (by omega),d 1 (by omega),d 2 (by omega)⟩
theorem zO(hk:k<l.length):iu n (l.drop k) b=(decide (b<l[k].a)&&(decide (l[k].a<(n:Int))&&iu n (l.drop (k+1)) l[k].a)):=by rw[kxx hk];rfl
def Du (n:Nat) (lf:Int) (dn:Bool):Bool:=aj (n:Int)&&(decide (-1<=lf)&&(decide (lf<=1000000)&&(!dn||lf==0)))
theorem Ee(im:List Nat)(dw:List Dw)(lf:Int)(dn:Bool):eW ⟨im,dw,lf,dn⟩=(Du im.length lf dn&&iu im.length dw (-1)):=by unfold eW Du;simp only[Bool.and_assoc]
theorem kZ(A DA:Option Addr)(im:List Nat)(dw:List Dw)(lf:Int)(dn:Bool)(n c m dc:Nat)(w:World)(hn:im.length=n)(hm:dw.length=m)(hn2:n<=9223372036854775807)(hm2:m<=4611686018427387904)(hr:RdQ w w.heap.size DA dw):
 Calls prog 123 #[.agg #[.slice A n c,.slice DA m dc,.int .i64 lf,.bool dn]] w λe w'=>e=.returned (.int .i64 (ff ⟨im,dw,lf,dn⟩))/\Below w.heap.size w w':=by
 have q:=hid (λW=>aE A n c W hn2);have u:Hid (ff ⟨im,dw,lf,dn⟩=if Du n lf dn&&iu n dw (-1) then 0 else 8):=hid (by unfold ff;rw[Ee,hn]);have a:Du n lf dn=(aj (n:Int)&&(decide (-1<=lf)&&(decide (lf<=1000000)&&(!dn||lf==0)))):=rfl;have J:=hid (Bx.new w 79 #[.slice A n c,.slice DA m dc,.int .i64 lf,.bool dn]);have f:=hid ((kql w.heap.size w).alloc (kqd _) (.cells #[.slice A n c,.slice DA m dc,.int .i64 lf,.bool dn] 79));have Q:=hid hr;obtain⟨t,j⟩:=xq (w.alloc (.cells #[.slice A n c,.slice DA m dc,.int .i64 lf,.bool dn] 79));rw[j] at J f;obtain⟨P,q1,q2,q3,-,-,-,-,M⟩:=J.out.c4;clear hr hn hn2;cases B:aj (n:Int)
 .have d:Hid (ff ⟨im,dw,lf,dn⟩=8):=hid (by rw[u.out,a,B];rfl);have l:=hid (bD B);clear B a;go_enter func123,ntmps123;go_wp2_with fail;refine (q.out t).mono ?_;rintro e E ⟨rfl,rfl⟩;rw[l.out];clear j;go_wp2;go_ret;exact⟨by rw[d.out];rfl,f.out⟩
 have l:=hid (aX B);rw[B,kzr] at a;clear B;by_cases h1:lf < -1
 .have d:Hid (ff ⟨im,dw,lf,dn⟩=8):=hid (by rw[u.out,a,decide_eq_false (by omega)];rfl);clear a;go_enter func123,ntmps123;go_wp2_with fail;refine (q.out t).mono ?_;rintro e E ⟨rfl,rfl⟩;rw[l.out];clear j;go_wp2;go_ret;exact⟨by rw[d.out];rfl,f.out⟩
 rw[decide_eq_true (show -1<=lf by omega),kzr] at a;by_cases h2:1000000<lf
 .have d:Hid (ff ⟨im,dw,lf,dn⟩=8):=hid (by rw[u.out,a,decide_eq_false (by omega)];rfl);clear a;go_enter func123,ntmps123;go_wp2_with fail;refine (q.out t).mono ?_;rintro e E ⟨rfl,rfl⟩;rw[l.out];clear j;go_wp2;go_ret;exact⟨by rw[d.out];rfl,f.out⟩
 rw[decide_eq_true (show lf<=1000000 by omega),kzr] at a;have s:(dn=true/\lf≠0)\/(!dn||lf==0)=true:=by
  cases dn with
  | false=>exact .inr rfl
  | true =>
   by_cases h:lf=0
   .exact .inr (by rw[h];rfl)
   exact .inl ⟨rfl,h⟩
 rcases s with⟨rfl,s⟩|s
 .have L:(lf==0)=false:=by rw[kqi];exact s
  have e4:(lf != 0)=true:=by rw[kqv];exact s
  have d:Hid (ff ⟨im,dw,lf,true⟩=8):=hid (by rw[u.out,a,L];rfl);clear a s L;go_enter func123,ntmps123;go_wp2_with fail;refine (q.out t).mono ?_;rintro e E ⟨rfl,rfl⟩;rw[l.out];clear j;go_wp2;go_ret;exact⟨by rw[d.out];rfl,f.out⟩
 rw[s] at a;rw[a,kzr] at u;have O:dn=false\/(dn=true/\lf=0):=by
  cases dn with
  | false=>exact .inl rfl
  | true=>exact .inr ⟨rfl,by simpa using s⟩
 have F:=hid (Q.out.below f.out);subst hm;clear a s;rcases O with rfl|⟨rfl,rfl⟩
 all_goals
  go_enter func123,ntmps123;go_wp2_with fail;refine (q.out t).mono ?_;rintro e E ⟨rfl,rfl⟩;rw[l.out];clear j;go_wp2_with fail;go_loopw [33,4] (λi S wr=>∃(k:Nat) (b:Int),k<=dw.length/\i=.int .i64 k/\S=.int .i64 b/\Hid (iu n dw (-1)=iu n (dw.drop k) b)/\Below t.heap.size t wr) (λi _ _=>dw.length-(intOf i).toNat)
  case atStart=>exact⟨0,-1,kqy _,rfl,rfl,hid rfl,kql _ _⟩
  obtain⟨k,b,R,rfl,rfl,D,z⟩:=hrel;by_cases r:k<dw.length
  .obtain ⟨g,o,rfl,hgb,I,H,G⟩:=RdQ.at_ (show RdQ wr w.heap.size DA dw from Rd.keep F.out λp hp=>z.cell (by have:=f.out.size;omega)) r;have C:=hid (zO (n:=n) (b:=b) r);obtain⟨x,K⟩:=xq (dw[k]);rw[K] at I H G C;obtain⟨v,N,U⟩:=x;dsimp only at I H G C;have r0:=(z.cell (p:=⟨w.heap.size,0,none⟩) M).trans P;have hki:(k:Int)<(dw.length:Int):=by omega
   have hk0:(0:Int)<=(k:Int):=by omega
   have T:=z.size;have hgw:w.heap.size<wr.heap.size:=by omega
   have y:=hid (z.alloc T (.cells #[.int .i64 v,.int .u64 (N:Int),.bool U] 92));clear K z;by_cases c1:v<=b
   .have d:Hid (iu n dw (-1)=false):=hid (by rw[D.out,C.out,decide_eq_false (by omega)];rfl);go_wp2;go_ret;exact⟨by rw[u.out,d.out];rfl,f.out.trans (y.out.mono f.out.size)⟩
   by_cases c2:(n:Int)<=v
   .have d:Hid (iu n dw (-1)=false):=hid (by rw[D.out,C.out,decide_eq_false (show ¬ v<(n:Int) by omega)];simp);go_wp2;go_ret;exact⟨by rw[u.out,d.out];rfl,f.out.trans (y.out.mono f.out.size)⟩
   have d:Hid (iu n dw (-1)=iu n (dw.drop (k+1)) v):=hid (by rw[D.out,C.out,decide_eq_true (show b<v by omega),decide_eq_true (show v<(n:Int) by omega)];simp);go_wp2;go_roundw
   case rel=>exact⟨k+1,v,by omega,by go_num,rfl,d,y.out⟩
   case measure=>simp[intOf];omega
  have d:Hid (iu n dw (-1)=true):=hid (by rw[D.out,kky (by omega)];rfl);have hend:decide ((k:Int)<(dw.length:Int))=false:=by rw[kqh];omega
  have hendn:decide (k<dw.length)=false:=by rw[kqh];exact r
  clear r R;go_wp2;go_ret;exact⟨by rw[u.out,d.out];rfl,f.out.trans (z.mono f.out.size)⟩
theorem jP:(prog.info? 79).map (·.size)=some 4:=by kernel_rfl
theorem yH:(prog.info? 92).map (λi=>(i.zero,i.size,i.bytes))=some (some (.agg #[.int .i64 0,.int .u64 0,.bool false]),3,24):=by kernel_rfl
theorem v8(h:fn.results=#[.cell p 79])(tmps:Array Value){cs:Array Value}(hb:Bx W g t cs)(hs:cs.size=4)(hp:tmps.getD p undef=.pointer (some ⟨g,0,none⟩)):
 (results fn tmps).run prog W=.ok (.agg cs) W:=by
 have a:tmps[p]?.getD undef=.pointer (some ⟨g,0,none⟩):=by simpa using hp
 have c:(prog.info? 79).map (·.size)=some cs.size:=by rw[hs];exact jP
 have b:=run_loadVar_row W g t 79 cs (0,0) _ hb underlying79 rfl c;simp[results,h,a,asAddr,b]
theorem a9{q:Tmp}(h:fn.results=#[.cell p 79,.tmp q])(tmps:Array Value){cs:Array Value}{u:Value}(hb:Bx W g t cs)(hs:cs.size=4)(hp:tmps.getD p undef=.pointer (some ⟨g,0,none⟩))(hq:tmps.getD q undef=u):
 (results fn tmps).run prog W=.ok (.tuple #[.agg cs,u]) W:=by
 have b:tmps[p]?.getD undef=.pointer (some ⟨g,0,none⟩):=by simpa using hp
 have a:tmps[q]?.getD undef=u:=by simpa using hq
 have d:(prog.info? 79).map (·.size)=some cs.size:=by rw[hs];exact jP
 have c:=run_loadVar_row W g t 79 cs (0,0) _ hb underlying79 rfl d;simp[results,h,b,a,asAddr,c]
section
variable {ops:Array Oper} {rest:List Oper} {a:Act} {w:World} {Q:Exit->Act->World->Prop} {dst:Option Tmp} {type:TypeId} {pos:String} {after:Array Edge} {x y:Operand} {g:Nat} {old new:Array Value}
theorem stD(hb:Bx w g 79 old)(h:∀b,Hid (Bx b g 79 new)->Hid (iq w b g)->wpList prog ops Q rest (a.put dst undef) b)(hx:a.eval x=.pointer (some ⟨g,0,none⟩):=by rfl)(hy:a.eval y=.agg new:=by rfl)(ho:new.size=old.size:=by rfl)(hs:new.size=4:=by rfl)(h1:new.all (·.oneCell')=true:=by simp[Value.oneCell']):
 wpList prog ops Q ({ dst := dst,op := .store 79 x y,type := type,pos := pos,after := after,guard := none }::rest) a w:=
 ak rfl _ _ _ rfl g _ old new hx hy hb ho (by rw[hs];exact jP) h1 λb d c=>h b (hid d) (hid c)
theorem ldD(hb:Bx w g 79 old)(h:wpList prog ops Q rest (a.put dst (.agg old)) w)(hx:a.eval x=.pointer (some ⟨g,0,none⟩):=by rfl)(hs:old.size=4:=by rfl):
 wpList prog ops Q ({ dst := dst,op := .load 79 x,type := type,pos := pos,after := after,guard := none }::rest) a w:=
 kxf rfl _ _ rfl g hx 79 old (0,0) _ hb underlying79 (by rfl) (by rw[hs];exact jP) h
end
theorem mL(w:World)(A DA:Option Addr)(lf:Int)(dn:Bool)(n c m dc:Nat):∃W0,(w.alloc (.cells #[.slice A n c,.slice DA m dc,.int .i64 lf,.bool dn] 79)).alloc (.cells #[.slice none 0 0,.slice none 0 0,.int .i64 0,.bool false] 79)=W0/\Bx W0 w.heap.size 79 #[.slice A n c,.slice DA m dc,.int .i64 lf,.bool dn]/\Bx W0 (w.heap.size+1) 79 #[.slice none 0 0,.slice none 0 0,.int .i64 0,.bool false]/\Below w.heap.size w W0/\W0.heap.size=w.heap.size+1+1:=by have a:=Bx.new (w.alloc (.cells #[.slice A n c,.slice DA m dc,.int .i64 lf,.bool dn] 79)) 79 #[.slice none 0 0,.slice none 0 0,.int .i64 0,.bool false];rw[kqm] at a;exact⟨_,rfl,(Bx.new w 79 #[.slice A n c,.slice DA m dc,.int .i64 lf,.bool dn]).alloc (.cells #[.slice none 0 0,.slice none 0 0,.int .i64 0,.bool false] 79),a,((kql w.heap.size w).alloc (kqd _) (.cells #[.slice A n c,.slice DA m dc,.int .i64 lf,.bool dn] 79)).alloc (by simp) (.cells #[.slice none 0 0,.slice none 0 0,.int .i64 0,.bool false] 79),by simp⟩
def OwnQ (w:World) (l:List Dw) (e:Ending) (w':World):Prop:=∃A c,e=.returned (.slice A l.length c)/\w'.ownsRow w.heap.size 92 3 (.slice A l.length c) l.length (l.flatMap Dw.cells)/\Below w.heap.size w w'
theorem uZ(A:Option Addr)(l:List Dw)(c n:Nat)(w:World)(hn:l.length=n)(hm:n<=1000000)(hr:RdQ w w.heap.size A l):
 Calls prog 125 #[.slice A n c] w λe w'=>OwnQ w l e w':=by
 have E:=hid hr;have s:=hid hn;have o:=hid (cj Dw.cells 3 Dw.len l);have f:=λ(W:World)=>Lib.run_eql_slice_nil (P:=prog) (w:=W) 77 92 A n c 0 0 underlying77;obtain⟨D,v,g,j,m⟩:=kzv yH;have B:=hid v;have p:=hid g;have r:=hid j;have q:=hid m;clear v g j m;cases A with
 | none =>
  have y:l=[]:=by
   cases l with
   | nil=>rfl
   | cons x l =>obtain⟨b,off,e,-⟩:=RdQ.at_ hr (show 0<(x::l).length by simp);cases e
  have u:=hid y;simp only[Option.isNone_none] at f;clear hr hn y;go_enter func125,ntmps125;go_wp2;go_ret;exact⟨none,0,by rw[u.out];rfl,by rw[u.out];exact kq8 _ _ _ _,kql _ _⟩
 | some a =>simp only[Option.isNone_some] at f;clear hr hn;go_enter func125,ntmps125;go_wp2_with (at_builtin;refine bC _ (by rfl) _ _ 77 rfl w.heap.size 92 D _ 3 24 underlying77 B.out p.out r.out q.out rfl (by decide) (.slice (some ⟨w.heap.size,0,none⟩) 0 0) 0 [] (by rfl) (gY w _ _ _ (kqd _)) w.heap.size (some a) n _ (l.flatMap Dw.cells) (by rfl) (by rw[o.out,s.out]) (Rd.alloc E.out (kqd _) _) (dF Dw.one _) (by unfold maxLen;omega) (by omega) (by simp) ?_;intro v1 wa d k;have i:=co ((kql w.heap.size w).alloc (kqd _) _) (by simp) (gY w w.heap.size 92 3 (kqd _)) k;simp only[kxa,kz2] at d;obtain⟨z,C,rfl⟩:=aJ d;have h:=hid d;have t:=hid i;clear d i k);go_ret;exact⟨z,C,by rw[s.out];rfl,by rw[s.out];exact h.out,t.out⟩
def mh (w':World) (H:Nat) (d:Dv) (v:Value):Prop:=∃A c DA dc,v=.agg #[.slice A d.im.length c,.slice DA d.dw.length dc,.int .i64 d.left,.bool d.down]/\d.im.length<=c/\w'.ownsRow H 53 1 (.slice A d.im.length c) d.im.length (d.im.flatMap ab)/\w'.ownsRow H 92 3 (.slice DA d.dw.length dc) d.dw.length (d.dw.flatMap Dw.cells)
theorem D3(A DA:Option Addr)(im:List Nat)(dw:List Dw)(lf:Int)(dn:Bool)(n c m dc:Nat)(w:World)(hn:im.length=n)(hm:dw.length=m)(h0:0<n)(hn2:n<=1000000)(hm2:m<=1000000)(hr:RdW w w.heap.size A im)(hq:RdQ w w.heap.size DA dw):
 Calls prog 265 #[.agg #[.slice A n c,.slice DA m dc,.int .i64 lf,.bool dn]] w λe w'=>(∃v,e=.returned v/\mh w' w.heap.size ⟨im,dw,lf,dn⟩ v)/\Below w.heap.size w w':=by
 have B:=hid (λW (h:RdW W W.heap.size A im)=>qk A im c n W.heap.size W hn h0 hn2 h (kqd _));have z:=hid (λW (h:RdQ W W.heap.size DA dw)=>uZ DA dw dc m W hm hm2 h);unfold xT at B;unfold OwnQ at z;rw[hn] at B;rw[hm] at z;have HR:=hid hr;have HQ:=hid hq;have a:=(Bx.new w 79 #[.slice A n c,.slice DA m dc,.int .i64 lf,.bool dn]).alloc (.cells #[.slice none 0 0,.slice none 0 0,.int .i64 0,.bool false] 79);have d:=Bx.new (w.alloc (.cells #[.slice A n c,.slice DA m dc,.int .i64 lf,.bool dn] 79)) 79 #[.slice none 0 0,.slice none 0 0,.int .i64 0,.bool false];rw[kqm] at d;have y:=((kql w.heap.size w).alloc (kqd _) (.cells #[.slice A n c,.slice DA m dc,.int .i64 lf,.bool dn] 79)).alloc (by simp) (.cells #[.slice none 0 0,.slice none 0 0,.int .i64 0,.bool false] 79);have K:((w.alloc (.cells #[.slice A n c,.slice DA m dc,.int .i64 lf,.bool dn] 79)).alloc (.cells #[.slice none 0 0,.slice none 0 0,.int .i64 0,.bool false] 79)).heap.size=w.heap.size+1+1:=by simp
 obtain⟨E,I⟩:=xq ((w.alloc (.cells #[.slice A n c,.slice DA m dc,.int .i64 lf,.bool dn] 79)).alloc (.cells #[.slice none 0 0,.slice none 0 0,.int .i64 0,.bool false] 79));rw[I] at a d y K;have X0:=hid a;have X1:=hid d;have F:=hid y;obtain⟨q0,q1,q2,q3,-,-,-,-,R⟩:=a.c4;have C:w.heap.size<=E.heap.size:=by omega
 have P:w.heap.size+1<E.heap.size:=by omega
 have S:(prog.info? 79).map (·.size)=some (#[.slice A n c,.slice DA m dc,.int .i64 lf,.bool dn]:Array Value).size:=jP;have D:=hid hn;have O:=hid hm;clear hr hq a d y K hn hm;go_enter func265,ntmps265;go_wp2_with fail;clear I;refine (B.out E (HR.out.up F.out C)).mono ?_;rintro e w1 ⟨g,i,rfl,l,j⟩;have L:=hid l;have a:=X0.out.up j R;have d:=X1.out.up j P;have Ja:=hid (F.out.trans (j.mono C));have hz1:=j.size;obtain⟨q0,q1,q2,q3,f0,f1,-,-,hg1⟩:=a.c4;have Z:=hid a;have XX1:=hid d;clear l j a d;go_wp2_with fail;have t:w.heap.size+1≠w.heap.size:=by omega
 have Jb:∀b,some b≠(Value.slice (some ⟨g,0,none⟩) n i).ownBlock->True:=λ_ _=>trivial;have V:=Ja.out.setCell (p:=⟨w.heap.size,0,none⟩) (kqd _) (.slice (some ⟨g,0,none⟩) n i);have a:=Z.out.set_ 0 (.slice (some ⟨g,0,none⟩) n i);have d:=XX1.out.far (p:=⟨w.heap.size,0,none⟩) t (.slice (some ⟨g,0,none⟩) n i);have o2:=au L.out (bK L.out R).symm (p:=⟨w.heap.size,0,none⟩) (.slice (some ⟨g,0,none⟩) n i);have Eq:(w1.setCell ⟨w.heap.size,0,none⟩ (.slice (some ⟨g,0,none⟩) n i)).heap.size=w1.heap.size:=kxb _ _ _;obtain⟨G,N⟩:∃G,w1.setCell ⟨w.heap.size,0,none⟩ (.slice (some ⟨g,0,none⟩) n i)=G:=⟨_,rfl⟩;rw[N] at V a d o2 Eq |-;have Y0:=hid a;have Y1:=hid d;have O2:=hid o2;have o:=hid V;have M:w.heap.size<G.heap.size:=by omega
 have x:w.heap.size+1<G.heap.size:=by omega
 clear N a d o2 V Jb;refine (z.out G (HQ.out.up o.out o.out.size)).mono ?_;rintro e T ⟨r,s,rfl,q,f⟩;have Jc:=hid (o.out.trans (f.mono o.out.size));have O3:=hid (ai O2.out f (kqd _));have Q3:=hid q;have a:=Y0.out.up f M;have d:=Y1.out.up f x;have hz3:=f.size;obtain⟨q0,q1,q2,q3,f0,f1,-,-,hg3⟩:=(show Bx T w.heap.size 79 #[.slice (some ⟨g,0,none⟩) n i,.slice DA m dc,.int .i64 lf,.bool dn] from a).c4;have Z0:=hid (show Bx (T.setCell ⟨w.heap.size,1,none⟩ (.slice r m s)) w.heap.size 79 #[.slice (some ⟨g,0,none⟩) n i,.slice r m s,.int .i64 lf,.bool dn] from a.set_ 1 (.slice r m s));have Z1:=hid (d.far (p:=⟨w.heap.size,1,none⟩) t (.slice r m s));have X:=hid (Jc.out.setCell (p:=⟨w.heap.size,1,none⟩) (kqd _) (.slice r m s));have O4:=hid (au O3.out (bK O3.out R).symm (p:=⟨w.heap.size,1,none⟩) (.slice r m s));have Q4:=hid (au Q3.out (bK Q3.out M).symm (p:=⟨w.heap.size,1,none⟩) (.slice r m s));clear q f a d;go_wp2_with (first
  | ((with_reducible refine aM 79 (.tmp 1) ?_);refine kxf rfl _ _ rfl w.heap.size (by rfl) 79 _ (0,0) _ Z0.out underlying79 (by rfl) jP ?_)
  | ((with_reducible refine aq 79 (.tmp 2) _ ?_);refine ak rfl _ _ _ rfl (w.heap.size+1) 79 #[.slice none 0 0,.slice none 0 0,.int .i64 0,.bool false] #[.slice (some ⟨g,0,none⟩) n i,.slice r m s,.int .i64 lf,.bool dn] (by rfl) (by rfl) Z1.out rfl S (by simp[Value.oneCell']) ?_;intro w9 Q J;have Y:=hid Q;have u:=hid J;clear Q J))
 have H:(T.setCell ⟨w.heap.size,1,none⟩ (.slice r m s)).grownBy w9 (some (w.heap.size+1)):=by have U:=u.out.2.2 (w.heap.size+1) (kqd _);exact⟨U.os,U.tape,U.output,by rw[u.out.1];exact kqd _,λk hk t=>u.out.2.1 k (λe=>t (by rw[e]))⟩
 refine kqr (v:=.agg #[.slice (some ⟨g,0,none⟩) n i,.slice r m s,.int .i64 lf,.bool dn]) (v8 results265 _ Y.out rfl rfl) rfl ⟨⟨_,rfl,some ⟨g,0,none⟩,i,r,s,by rw[D.out,O.out],?_,?_,?_⟩,u.out.below X.out (by omega)⟩
 .dsimp only;rw[D.out];exact aZ O4.out
 .dsimp only;rw[D.out];exact ao (bu O4.out H (.inr (bK O4.out P).symm)) C
 dsimp only;rw[O.out];exact ao (bu Q4.out H (.inr (bK Q4.out x).symm)) o.out.size
theorem iq.grown{w:World}(h:iq w w' g):w.grownBy w' (some g):=by have b:=h.2.2 g (kqd _);exact⟨b.os,b.tape,b.output,by rw[h.1];exact kqd _,λk _ a=>h.2.1 k (λe=>a (by rw[e]))⟩
theorem ap{w:World}{sz:Nat}{e:TypeId}{xs:List Value}(h:w.ownsRow H e sz v n xs)(ha:iq w w' g)(hg:g<H):w'.ownsRow H e sz v n xs:=bu h ha.grown (.inr (bK h hg).symm)
def dvB (d:Dv):Dv:=if d.left=0 then dvD d else { d with left:=dec d.left }
theorem mY(A DA:Option Addr)(im:List Nat)(dw:List Dw)(lf:Int)(dn:Bool)(n c m dc:Nat)(w:World)(hn:im.length=n)(hm:dw.length=m)(h0:0<n)(hn2:n<=1000000)(hm2:m<=1000000)(hlf : -1<=lf/\lf<=1000000)(hr:RdW w w.heap.size A im)(hq:RdQ w w.heap.size DA dw):
 Calls prog 226 #[.agg #[.slice A n c,.slice DA m dc,.int .i64 lf,.bool dn]] w λe w'=>(∃v,e=.returned (.tuple #[v,.bool (decide (lf≠0))])/\mh w' w.heap.size (dvB ⟨im,dw,lf,dn⟩) v)/\Below w.heap.size w w':=by
 have F:=hid (λW (h:RdW W W.heap.size A im) (h2:RdQ W W.heap.size DA dw)=>D3 A DA im dw lf dn n c m dc W hn hm h0 hn2 hm2 h h2);unfold mh at F;rw[hn,hm] at F;have HR:=hid hr;have HQ:=hid hq;obtain⟨W0,Eq,E,H,N,Z⟩:=mL w A DA lf dn n c m dc;have X0:=hid E;have X1:=hid H;have C:=hid N;have f:=hid hn;have o:=hid hm;obtain⟨q0,q1,q2,q3,-,-,-,-,j⟩:=E.c4;have d:w.heap.size<=W0.heap.size:=by omega
 have l:w.heap.size+1<W0.heap.size:=by omega
 have t:w.heap.size+1≠w.heap.size:=by omega
 clear hr hq E H N Z hn hm;go_enter func226,ntmps226;go_wp2_with fail;clear Eq;refine (F.out W0 (HR.out.up C.out d) (HQ.out.up C.out d)).mono ?_;rintro e w1 ⟨⟨v,rfl,B,z,i,g,rfl,D,S,O⟩,x⟩;have s:=hid S;have r:=hid O;have E:=hid (X0.out.up x j);have H:=hid (X1.out.up x l);have G:=hid (C.out.trans (x.mono d));clear x S O;by_cases k:lf=0
 .subst k;have J:Hid (dvB ⟨im,dw,0,dn⟩=⟨im,dw,0,true⟩):=hid (by unfold dvB dvD;rw[if_pos rfl]);go_wp2_with (first
   | (((with_reducible refine aq 79 (.tmp 1) _ ?_);refine stD E.out ?_;intro Y y a);obtain⟨s0,s1,s2,s3,P,L,M,T,I⟩:=y.out.c4;have R:=hid (show Bx (Y.setCell ⟨w.heap.size,3,none⟩ (.bool true)) w.heap.size 79 #[.slice B n z,.slice i m g,.int .i64 0,.bool true] from y.out.set_ 3 (.bool true));have Q:=hid ((a.out.bx H.out t).far (p:=⟨w.heap.size,3,none⟩) t (.bool true));have u:=hid ((a.out.below G.out (kqd _)).setCell (p:=⟨w.heap.size,3,none⟩) (kqd _) (.bool true));have X:=hid (au (ap s.out a.out j) (bK (ap s.out a.out j) j).symm (p:=⟨w.heap.size,3,none⟩) (.bool true));have U:=hid (au (ap r.out a.out j) (bK (ap r.out a.out j) j).symm (p:=⟨w.heap.size,3,none⟩) (.bool true)))
   | ((with_reducible refine aM 79 (.tmp 1) ?_);refine ldD R.out ?_)
   | ((with_reducible refine aq 79 (.tmp 2) _ ?_);refine stD Q.out ?_;intro w9 q b))
  refine kqr (v:=.tuple #[.agg #[.slice B n z,.slice i m g,.int .i64 0,.bool true],.bool false]) (a9 results226 _ q.out rfl rfl rfl) rfl ⟨⟨_,by rw[show decide ((0:Int)≠0)=false from rfl],by rw[J.out];exact⟨B,z,i,g,by rw[f.out,o.out],by rw[f.out];exact D,by rw[f.out];exact ao (ap X.out b.out l) d,by rw[o.out];exact ao (ap U.out b.out l) d⟩⟩,b.out.below u.out (by omega)⟩
 have e0:(lf==0)=false:=by rw[kqi];exact k
 have ed:decide (lf≠0)=true:=by rw[kqn];exact k
 have V:=hid ed;by_cases K:0<lf
 .have J:Hid (dvB ⟨im,dw,lf,dn⟩=⟨im,dw,lf-1,dn⟩):=hid (by unfold dvB dec;rw[if_neg k];dsimp only;rw[if_pos K]);have hw1:IntKind.i64.wrap (lf-1)=lf-1:=kqs _ (by omega);clear k ed;go_wp2_with (first
   | (((with_reducible refine aq 79 (.tmp 1) _ ?_);refine stD E.out ?_;intro Y y a);obtain⟨s0,s1,s2,s3,P,L,M,T,I⟩:=y.out.c4;have R:=hid (show Bx (Y.setCell ⟨w.heap.size,2,none⟩ (.int .i64 (lf-1))) w.heap.size 79 #[.slice B n z,.slice i m g,.int .i64 (lf-1),.bool dn] from y.out.set_ 2 (.int .i64 (lf-1)));have Q:=hid ((a.out.bx H.out t).far (p:=⟨w.heap.size,2,none⟩) t (.int .i64 (lf-1)));have u:=hid ((a.out.below G.out (kqd _)).setCell (p:=⟨w.heap.size,2,none⟩) (kqd _) (.int .i64 (lf-1)));have X:=hid (au (ap s.out a.out j) (bK (ap s.out a.out j) j).symm (p:=⟨w.heap.size,2,none⟩) (.int .i64 (lf-1)));have U:=hid (au (ap r.out a.out j) (bK (ap r.out a.out j) j).symm (p:=⟨w.heap.size,2,none⟩) (.int .i64 (lf-1))))
   | ((with_reducible refine aM 79 (.tmp 1) ?_);refine ldD R.out ?_)
   | ((with_reducible refine aq 79 (.tmp 2) _ ?_);refine stD Q.out ?_;intro w9 q b))
  refine kqr (v:=.tuple #[.agg #[.slice B n z,.slice i m g,.int .i64 (lf-1),.bool dn],.bool true]) (a9 results226 _ q.out rfl rfl rfl) rfl ⟨⟨_,by rw[V.out],by rw[J.out];exact⟨B,z,i,g,by rw[f.out,o.out],by rw[f.out];exact D,by rw[f.out];exact ao (ap X.out b.out l) d,by rw[o.out];exact ao (ap U.out b.out l) d⟩⟩,b.out.below u.out (by omega)⟩
 have J:Hid (dvB ⟨im,dw,lf,dn⟩=⟨im,dw,lf,dn⟩):=hid (by unfold dvB dec;rw[if_neg k];dsimp only;rw[if_neg K]);clear k ed;go_wp2_with (first
  | (((with_reducible refine aq 79 (.tmp 1) _ ?_);refine stD E.out ?_;intro Y y a);obtain⟨s0,s1,s2,s3,P,L,M,T,I⟩:=y.out.c4;have R:=y;have Q:=hid (a.out.bx H.out t);have u:=hid (a.out.below G.out (kqd _));have X:=hid (ap s.out a.out j);have U:=hid (ap r.out a.out j))
  | ((with_reducible refine aM 79 (.tmp 1) ?_);refine ldD R.out ?_)
  | ((with_reducible refine aq 79 (.tmp 2) _ ?_);refine stD Q.out ?_;intro w9 q b))
 refine kqr (v:=.tuple #[.agg #[.slice B n z,.slice i m g,.int .i64 lf,.bool dn],.bool true]) (a9 results226 _ q.out rfl rfl rfl) rfl ⟨⟨_,by rw[V.out],by rw[J.out];exact⟨B,z,i,g,by rw[f.out,o.out],by rw[f.out];exact D,by rw[f.out];exact ao (ap X.out b.out l) d,by rw[o.out];exact ao (ap U.out b.out l) d⟩⟩,b.out.below u.out (by omega)⟩
def DM (d:Dv) (a:Int):Int:=if ff d=0 then (if 0<=a/\a<(d.im.length:Int) then 0 else 2) else 8
theorem yd(h:ff d≠0):ff d=8:=by
 unfold ff at h |-;split
 .rename_i h1;rw[if_pos h1] at h;exact absurd rfl h
 rfl
theorem Fo(A DA:Option Addr)(im:List Nat)(dw:List Dw)(lf:Int)(dn:Bool)(n c m dc:Nat)(a:Int)(w:World)(hn:im.length=n)(hm:dw.length=m)(hn2:n<=9223372036854775807)(hm2:m<=4611686018427387904)(hr:RdQ w w.heap.size DA dw):
 Calls prog 225 #[.agg #[.slice A n c,.slice DA m dc,.int .i64 lf,.bool dn],.int .i64 a] w λe w'=>e=.returned (.int .i64 (DM ⟨im,dw,lf,dn⟩ a))/\Below w.heap.size w w':=by
 have v:=hid (λW (h:RdQ W W.heap.size DA dw)=>kZ A DA im dw lf dn n c m dc W hn hm hn2 hm2 h);have o:Hid (DM ⟨im,dw,lf,dn⟩ a=if ff ⟨im,dw,lf,dn⟩=0 then (if 0<=a/\a<(n:Int) then 0 else 2) else 8):=hid (by unfold DM;rw[<-hn]);have p:=hid (yd (d:=⟨im,dw,lf,dn⟩));have t:=Bx.new w 79 #[.slice A n c,.slice DA m dc,.int .i64 lf,.bool dn];have k:=(kql w.heap.size w).alloc (kqd _) (.cells #[.slice A n c,.slice DA m dc,.int .i64 lf,.bool dn] 79);have y:=hid hr;obtain⟨s,l⟩:=xq (w.alloc (.cells #[.slice A n c,.slice DA m dc,.int .i64 lf,.bool dn] 79));rw[l] at t k;have g:=hid k;have C:=hid t;obtain⟨q0,q1,q2,q3,-,-,-,-,z⟩:=t.c4;have i:w.heap.size<=s.heap.size:=by omega
 obtain⟨r,q⟩:∃r,ff ⟨im,dw,lf,dn⟩=r:=⟨_,rfl⟩;rw[q] at v o p;clear hr t k hn hm q;by_cases u:r=0
 .subst u;rw[if_pos rfl] at o;go_enter func225,ntmps225;go_wp2_with fail;clear l;refine (v.out s (y.out.up g.out i)).mono ?_;rintro e D ⟨rfl,b⟩;have x:=C.out.up b z;have f:=hid (g.out.trans (b.mono i));obtain⟨p0,-,-,-,-,-,-,-,-⟩:=x.c4;clear b x;by_cases h1:a<0
  .have j:Hid (DM ⟨im,dw,lf,dn⟩ a=2):=hid (by rw[o.out,if_neg (by omega)]);go_wp2;go_ret;exact⟨by rw[j.out];rfl,f.out⟩
  by_cases h2:(n:Int)<=a
  .have j:Hid (DM ⟨im,dw,lf,dn⟩ a=2):=hid (by rw[o.out,if_neg (by omega)]);go_wp2;go_ret;exact⟨by rw[j.out];rfl,f.out⟩
  have j:Hid (DM ⟨im,dw,lf,dn⟩ a=0):=hid (by rw[o.out,if_pos (by omega)]);go_wp2;go_ret;exact⟨by rw[j.out];rfl,f.out⟩
 have B:=p.out u;have j:Hid (DM ⟨im,dw,lf,dn⟩ a=8):=hid (by rw[o.out,if_neg u]);subst B;clear u;go_enter func225,ntmps225;go_wp2_with fail;clear l;refine (v.out s (y.out.up g.out i)).mono ?_;rintro e D ⟨rfl,b⟩;have f:=hid (g.out.trans (b.mono i));clear b;go_wp2;go_ret;exact⟨by rw[j.out];rfl,f.out⟩
def DZ (d:Dv) (H:Nat) (e:Ending) (w':World):Prop:=(ff d=0->∃g c,e=.returned (.tuple #[.slice (some ⟨g,0,none⟩) d.im.length c,.int .i64 0])/\w'.ownsRow H 53 1 (.slice (some ⟨g,0,none⟩) d.im.length c) d.im.length ((dvV d).flatMap ab))/\(ff d≠0->e=.returned (.tuple #[.slice none 0 0,.int .i64 (ff d)]))
theorem y8{x:List Nat}(hk:k<l.length):kn x (l.take (k+1))=(kn x (l.take k)).set l[k].a.toNat l[k].v:=by unfold kn;rw[kqo hk,List.foldl_append];rfl
theorem qa(A DA:Option Addr)(im:List Nat)(dw:List Dw)(lf:Int)(dn:Bool)(n c m dc:Nat)(w:World)(hn:im.length=n)(hm:dw.length=m)(hn2:n<=9223372036854775807)(hm2:m<=4611686018427387904)(hi:RdW w w.heap.size A im)(hr:RdQ w w.heap.size DA dw):
 Calls prog 81 #[.agg #[.slice A n c,.slice DA m dc,.int .i64 lf,.bool dn]] w λe w'=>DZ ⟨im,dw,lf,dn⟩ w.heap.size e w'/\Below w.heap.size w w':=by
 have S:=hid (λW (h:RdQ W W.heap.size DA dw)=>kZ A DA im dw lf dn n c m dc W hn hm hn2 hm2 h);have O:=Bx.new w 79 #[.slice A n c,.slice DA m dc,.int .i64 lf,.bool dn];have s:=(kql w.heap.size w).alloc (kqd _) (.cells #[.slice A n c,.slice DA m dc,.int .i64 lf,.bool dn] 79);have HR:=hid hr;have Eq:=hid hi;obtain⟨M,E⟩:=xq (w.alloc (.cells #[.slice A n c,.slice DA m dc,.int .i64 lf,.bool dn] 79));rw[E] at O s;have t:=hid s;have X0:=hid O;obtain⟨q0,q1,q2,q3,-,-,-,-,hg⟩:=O.c4;have v:w.heap.size<=M.heap.size:=by omega
 have Q:=hid hn;by_cases z:ff ⟨im,dw,lf,dn⟩=0
 .have H:=(bH _).1 (oM z);have hs:=(aa _).1 H.1;dsimp only at hs;have F:=H.2.2.2.2;dsimp only at F;have P:=hid (fL F);rw[hn] at P;have D:=hid (λW (h:RdW W W.heap.size A im)=>qk A im c n W.heap.size W hn (by omega) (by omega) h (kqd _));unfold xT at D;rw[hn] at D;have C:=hid z;have Jc:=hid (λk hk=>y8 (x:=im) (l:=dw) (k:=k) hk);have Je:Hid (dvV ⟨im,dw,lf,dn⟩=kn im (dw.take dw.length)):=hid (by rw[kzn];rfl);have hn3:n<=2048:=by omega
  rw[z] at S;subst hm;clear hr hi O s hn z H hs F;go_enter func81,ntmps81;go_wp2_with fail;clear E;refine (S.out M (HR.out.up t.out v)).mono ?_;rintro e K ⟨rfl,f⟩;have Z:=X0.out.up f hg;have X1:=hid Z;have d:=hid (t.out.trans (f.mono v));obtain⟨T,X,-,-,-,-,-,-,Jf⟩:=Z.c4;clear f Z;go_wp2_with fail;refine (D.out K (Eq.out.up d.out d.out.size)).mono ?_;rintro e w2 ⟨g,V,rfl,q,y⟩;have G:=hid q;have Jb:=hid (d.out.trans (y.mono d.out.size));have x2:=X1.out.up y Jf;obtain⟨-,r1,-,-,-,-,-,-,hg2⟩:=x2.c4;have hz2:=y.size;clear q y x2 T X;go_wp2_with fail;go_loopw [19] (λi wr=>∃k:Nat,k<=dw.length/\i=.int .i64 k/\Hid (wr.ownsRow K.heap.size 53 1 (.slice (some ⟨g,0,none⟩) n V) n ((kn im (dw.take k)).flatMap ab))/\Hid (Below w.heap.size w wr)) (λi _=>dw.length-(intOf i).toNat)
  case atStart=>exact⟨0,kqy _,rfl,G,Jb⟩
  obtain⟨k,hk,rfl,B,U⟩:=hrel;have hz:=U.out.size;by_cases j:k<dw.length
  .obtain ⟨b,o,rfl,hbb,T,X,p2⟩:=RdQ.at_ (HR.out.below U.out) j;have L:=hid (Jc.out k j);have R:=hid (P.out _ (kqp j));obtain⟨x,hx⟩:=xq (dw[k]);rw[hx] at T X p2 L R;obtain⟨xa,J,xf⟩:=x;dsimp only at T X p2 L R;obtain⟨a,rfl⟩:=kq1 (show 0<=xa by have:=R.out.1;omega);rw[kqj] at L;have ha:(a:Int)<(n:Int):=R.out.2;have ha0:(0:Int)<=(a:Int):=by omega
   have han:a<n:=by omega
   have hki:(k:Int)<(dw.length:Int):=by omega
   have hk0:(0:Int)<=(k:Int):=by omega
   obtain⟨Y,hY⟩:=xq (kn im (dw.take k));rw[hY] at B L;have hw1g:K.heap.size<=g:=gp B.out;have HN:=hid (show ((wr.setCell ⟨g,a,none⟩ (.int .u64 (J:Int))).alloc (.cells #[.int .i64 (a:Int),.int .u64 (J:Int),.bool xf] 92)).ownsRow K.heap.size 53 1 (.slice (some ⟨g,0,none⟩) n V) n ((Y.set a J).flatMap ab) by
    rw[nk];exact ((B.out.stored a (.int .u64 (J:Int))).1).alloc _)
   have Jd:=hid ((U.out.setCell (p:=⟨g,a,none⟩) (by dsimp only;have:=d.out.size;omega) (.int .u64 (J:Int))).alloc (by rw[kxb];exact hz) (.cells #[.int .i64 (a:Int),.int .u64 (J:Int),.bool xf] 92));have hgw:g<wr.heap.size:=by have:=(B.out.lt g rfl).2;exact this
   obtain⟨u0,hu0⟩:∃u,wr.cell? ⟨g,a,none⟩=some u:=by have hc:=B.out.cellAt a (by omega);have hl:=B.out.1;rw[kqk (by rw[hl];omega)] at hc;exact⟨_,hc⟩
   have hf0:=B.out.frozenAt a;clear hx hY;go_wp2;go_roundw
   case rel=>exact⟨k+1,by omega,by go_num,by rw[L.out];exact HN,Jd⟩
   case measure=>simp[intOf];omega
  have N:k=dw.length:=by omega
  have G:Hid (wr.ownsRow K.heap.size 53 1 (.slice (some ⟨g,0,none⟩) n V) n ((dvV ⟨im,dw,lf,dn⟩).flatMap ab)):=hid (by rw[Je.out,<-N];exact B.out);have hend:decide ((k:Int)<(dw.length:Int))=false:=by rw[kqh];omega
  have hendn:decide (k<dw.length)=false:=by rw[kqh];exact j
  clear j hk N;go_wp2;go_ret2;exact⟨⟨λ_=>⟨g,V,by rw[Q.out];rfl,by rw[Q.out];exact ao G.out d.out.size⟩,λh=>absurd C.out h⟩,U.out⟩
 have C:=hid z;obtain⟨r,I⟩:∃r,ff ⟨im,dw,lf,dn⟩=r:=⟨_,rfl⟩;rw[I] at S z;have Ja:=hid I;have e1:(r != 0)=true:=by rw[kqv];exact z
 clear hr hi O s hn hm z I;go_enter func81,ntmps81;go_wp2_with fail;clear E;refine (S.out M (HR.out.up t.out v)).mono ?_;rintro e K ⟨rfl,f⟩;have d:=hid (t.out.trans (f.mono v));clear f;go_wp2;go_ret2;exact⟨⟨λh=>absurd h C.out,λ_=>by rw[Ja.out];rfl⟩,d.out⟩
theorem yl(h:eW d=true)(h0:0<=a)(h1:a<(d.im.length:Int)):DM d a=0:=by unfold DM;rw[if_pos (jH h),if_pos ⟨h0,h1⟩]
theorem oH(d:Dv):(dvB d).im=d.im/\(dvB d).dw=d.dw:=by unfold dvB dvD;split<;>exact⟨rfl,rfl⟩
theorem qh(h:d.left=0):dvB d=dvD d:=by unfold dvB;rw[if_pos h]
theorem CI(hk:k<l.length)(R:List Dw)(hR:R=flQ a (l.take k)++l.drop k):R[k]? = some l[k]/\(flB a l[k]=l[k]->flQ a (l.take (k+1))++l.drop (k+1)=R)/\flQ a (l.take (k+1))++l.drop (k+1)=R.set k (flB a l[k])/\R.length=l.length:=by
 have c:(flQ a (l.take k)).length=k:=by unfold flQ;rw[kz3,kq3];omega
 have b:l.drop k=l[k]::l.drop (k+1):=kxx hk;have d:flQ a (l.take (k+1))=flQ a (l.take k)++[flB a l[k]]:=by unfold flQ;rw[kqo hk,kjj];rfl
 subst hR;refine⟨?_,λh=>?_,?_,?_⟩
 .rw[kxh (by omega),c,kvm,b];rfl
 .rw[d,h,b,kxr];rfl
 .rw[d,b,kk4 _ _ (by omega),c,kvm,kxr];rfl
 rw[kqu,c,kzk];omega
theorem Ax(A DA:Option Addr)(im:List Nat)(dw:List Dw)(lf:Int)(dn:Bool)(n c m dc a:Nat)(w:World)(hn:im.length=n)(hm:dw.length=m)(hok:eW ⟨im,dw,lf,dn⟩=true)(ha:a<n)(hm2:m<=1000000)(hi:RdW w w.heap.size A im)(hr:RdQ w w.heap.size DA dw):
 Calls prog 182 #[.agg #[.slice A n c,.slice DA m dc,.int .i64 lf,.bool dn],.int .i64 (a:Int)] w λe w'=>(∃v,e=.returned (.tuple #[v,.int .i64 0])/\mh w' w.heap.size (dvF ⟨im,dw,lf,dn⟩ (a:Int)) v)/\Below w.heap.size w w':=by
 have K:=(bH _).1 hok;have hs:=(aa _).1 K.1;dsimp only at hs;have Jl : -1<=lf/\lf<=1000000:=⟨K.2.1,K.2.2.1⟩;have T:=K.2.2.2.2;dsimp only at T;have Jj:=hid (fL T);rw[hn] at Jj;have Jg:=hid (λW (h:RdQ W W.heap.size DA dw)=>Fo A DA im dw lf dn n c m dc (a:Int) W hn hm (by omega) (by omega) h);rw[yl hok (by omega) (by dsimp only;omega)] at Jg;have C:=hid (λW (h:RdW W W.heap.size A im) (I:RdQ W W.heap.size DA dw)=>mY A DA im dw lf dn n c m dc W hn hm (by omega) (by omega) (by omega) Jl h I);unfold mh at C;rw[(oH _).1,(oH _).2] at C;dsimp only at C;rw[hn,hm] at C;have HR:=hid hi;have HQ:=hid hr;obtain⟨W0,Jz,Q,x1,Jc,Kb⟩:=mL w A DA lf dn n c m dc;have X0:=hid Q;have X1:=hid x1;have Jh:=hid Jc;have B:=hid hn;have Ja:=hid hm;obtain⟨q0,q1,q2,q3,-,-,-,-,hg⟩:=Q.c4;have Jq:w.heap.size<=W0.heap.size:=by omega
 have Kg:w.heap.size+1<W0.heap.size:=by omega
 have Je:w.heap.size+1≠w.heap.size:=by omega
 have hn3:n<=2048:=by omega
 clear hi hr Q x1 Jc Kb hn hm K hs T hok;go_enter func182,ntmps182;go_wp2_with fail;clear Jz;refine (Jg.out W0 (HQ.out.up Jh.out Jq)).mono ?_;rintro e N ⟨rfl,E⟩;have Q:=X0.out.up E hg;have j:=hid (Jh.out.trans (E.mono Jq));have hz1:=E.size;obtain⟨p0,p1,p2,p3,-,-,-,-,G⟩:=Q.c4;have Y0:=hid Q;have Y1:=hid (X1.out.up E Kg);have q:w.heap.size+1<N.heap.size:=by omega
 clear Q E q0 q1 q2 q3;go_wp2_with fail;refine (C.out N (HR.out.up j.out j.out.size) (HQ.out.up j.out j.out.size)).mono ?_;rintro e w2 ⟨⟨v,rfl,A1,Y,t,r,rfl,Jp,Ju,Jr⟩,H⟩;have V:=hid Ju;have Eq:=hid Jr;have Z0:=hid (Y0.out.up H G);have Z1:=hid (Y1.out.up H q);have U:=hid (j.out.trans (H.mono j.out.size));have Kc:=H.size;clear H Ju Jr p0 p1 p2 p3;by_cases F:lf=0
 .subst F;have HV:Hid (dvF ⟨im,dw,0,dn⟩ (a:Int)=⟨im,dw,0,true⟩):=hid (by unfold dvF dvD;rw[if_pos rfl]);rw[qh rfl,show decide ((0:Int)≠0)=false from rfl];unfold dvD;dsimp only;go_wp2_with (first
   | ((with_reducible refine aq 79 (.tmp 2) _ ?_);refine stD Z0.out ?_;intro w3 U0 f)
   | ((with_reducible refine aM 79 (.tmp 2) ?_);refine ldD U0.out ?_)
   | ((with_reducible refine aq 79 (.tmp 4) _ ?_);refine stD (f.out.bx Z1.out Je) ?_;intro w9 S u))
  refine kqr (v:=.tuple #[.agg #[.slice A1 n Y,.slice t m r,.int .i64 0,.bool true],.int .i64 0]) (a9 results182 _ S.out rfl rfl rfl) rfl ⟨⟨_,rfl,by
   rw[HV.out];exact⟨A1,Y,t,r,by rw[B.out,Ja.out],by rw[B.out];exact Jp,by rw[B.out];exact ao (ap (ap V.out f.out G) u.out q) j.out.size,by rw[Ja.out];exact ao (ap (ap Eq.out f.out G) u.out q) j.out.size⟩⟩,u.out.below (f.out.below U.out (kqd _)) (by omega)⟩
 have ed:decide (lf≠0)=true:=by rw[kqn];exact F
 have HV:Hid (dvF ⟨im,dw,lf,dn⟩ (a:Int)=⟨im,flQ (a:Int) dw,dec lf,dn⟩):=hid (by unfold dvF;rw[if_neg F]);have Js:dvB ⟨im,dw,lf,dn⟩=⟨im,dw,dec lf,dn⟩:=by unfold dvB;rw[if_neg F]
 rw[ed,Js];dsimp only;obtain⟨l2,Jt⟩:=xq (dec lf);rw[Jt] at HV |-;subst Ja;have Jy:=hid (λk (K:k<dw.length) R hR=>CI (a:=(a:Int)) (l:=dw) (k:=k) K R hR);have Ka:Hid (flQ (a:Int) dw=flQ (a:Int) (dw.take dw.length)++dw.drop dw.length):=hid (by rw[kzn,kj9,kzs]);have Jm:Hid ((flQ (a:Int) dw).length=dw.length):=hid (by unfold flQ;rw[kz3]);clear Jt Js ed F Jl;go_wp2_with (first
  | (((with_reducible refine aq 79 (.tmp 2) _ ?_);refine stD Z0.out ?_;intro w3 U0 f);obtain⟨s0,s1,s2,s3,sf0,sf1,sf2,sf3,slt⟩:=U0.out.c4))
 have hw3:w.heap.size<w3.heap.size:=U0.out.lt;have U1:=hid (f.out.bx Z1.out Je);have Jw:=hid (ap V.out f.out G);have Kf:=hid (ap Eq.out f.out G);have Kh:=hid (f.out.below U.out (kqd _));clear V Eq U Z0 Z1 f Kc;go_loopw [28] (λi wr=>∃(k:Nat) (R:List Dw),k<=dw.length/\i=.int .i64 k/\Hid (R=flQ (a:Int) (dw.take k)++dw.drop k)/\Hid (Bx wr w.heap.size 79 #[.slice A1 n Y,.slice t dw.length r,.int .i64 l2,.bool dn])/\Hid (Bx wr (w.heap.size+1) 79 #[.slice none 0 0,.slice none 0 0,.int .i64 0,.bool false])/\Hid (wr.ownsRow N.heap.size 53 1 (.slice A1 n Y) n (im.flatMap ab))/\Hid (wr.ownsRow N.heap.size 92 3 (.slice t dw.length r) dw.length (R.flatMap Dw.cells))/\Hid (Below w.heap.size w wr)) (λi _=>dw.length-(intOf i).toNat)
 case atStart=>exact⟨0,dw,kqy _,rfl,hid rfl,U0,U1,Jw,Kf,Kh⟩
 obtain⟨k,R,K,rfl,Jk,V0,V1,VO,M,VB⟩:=hrel;have hz:=VB.out.size;obtain⟨v0,v1,v2,v3,-,-,-,-,hgw⟩:=V0.out.c4;by_cases D:k<dw.length
 .obtain ⟨g,c9,Jd⟩:=fK M.out (by omega);obtain⟨rfl,-,rfl⟩:t=some ⟨g,0,none⟩/\dw.length=dw.length/\r=c9:=by injection Jd with h1 I h3;exact⟨h1,I,h3⟩
  obtain⟨y1,y2,y3,y4⟩:=Jy.out k D R Jk.out;have L:k<R.length:=by rw[y4];exact D
  obtain⟨b,o,he,hbb,p0,p1,p2⟩:=RdQ.at_ (show RdQ wr wr.heap.size (some ⟨g,0,none⟩) R from Rd.of_own M.out) L;obtain⟨rfl,rfl⟩:g=b/\0=o:=by injection he with he;injection he with h1 I h3;exact⟨h1,I⟩
  rw[kxa] at p0 p1 p2;rw[kqk L,Option.some.injEq] at y1;rw[y1] at p0 p1 p2;have HM:=hid (Jj.out _ (kqp D));have Y2:=hid y2;have Y3:=hid y3;have Jv:=hid (show R[k]? = some dw[k] by rw[kqk L,y1]);obtain⟨x,hx⟩:=xq (dw[k]);rw[hx] at p0 p1 p2 HM Y2 Y3 Jv;obtain⟨xa,s,z⟩:=x;dsimp only at p0 p1 p2 HM;obtain⟨d,rfl⟩:=kq1 (show 0<=xa by have:=HM.out.1;omega);have hxn:d<2048:=by have:=HM.out.2;omega
  have hki:(k:Int)<(dw.length:Int):=by omega
  have hk0:(0:Int)<=(k:Int):=by omega
  have hgb:N.heap.size<=g:=gp M.out;have Kd:w.heap.size≠g:=by omega
  have Jo:w.heap.size+1≠g:=by omega
  have Ji:((d:Int)/8==(a:Int)/8)=decide (d/8=a/8):=by rw[kzg,kqw,kqn];omega
  clear hx Jd he y1 y2 y3 y4 L;by_cases J:d/8=a/8
  .have Jb:Hid (flB (a:Int) ⟨(d:Int),s,z⟩=⟨(d:Int),s,true⟩):=hid (by unfold flB;rw[if_pos (show (d:Int)/8=(a:Int)/8 by omega)]);rw[decide_eq_true J] at Ji;have hf2:=M.out.frozenAt (k*3+2);have Z:=hid (show ((wr.setCell ⟨g,k*3+2,none⟩ (.bool true)).alloc (.cells #[.int .i64 (d:Int),.int .u64 (s:Int),.bool z] 92)).ownsRow N.heap.size 92 3 (.slice (some ⟨g,0,none⟩) dw.length r) dw.length ((R.set k ⟨(d:Int),s,true⟩).flatMap Dw.cells) by
    rw[eF Dw.cells 3 Dw.len R k 2 (by omega) ⟨(d:Int),s,true⟩ (.bool true) (λy hy=>by rw[Jv.out] at hy;cases hy;rfl)];exact ((M.out.stored (k*3+2) (.bool true)).1).alloc _)
   have O:=hid ((au VO.out (p:=⟨g,k*3+2,none⟩) (show (Value.slice A1 n Y).ownBlock≠some g from λh=>by
    rcases fE VO.out M.out (by decide) with I|I
    .rw[h] at I;cases I
    exact I h) (.bool true)).alloc (.cells #[.int .i64 (d:Int),.int .u64 (s:Int),.bool z] 92))
   have V0N:=hid ((V0.out.far (p:=⟨g,k*3+2,none⟩) Kd (.bool true)).alloc (.cells #[.int .i64 (d:Int),.int .u64 (s:Int),.bool z] 92));have P:=hid ((V1.out.far (p:=⟨g,k*3+2,none⟩) Jo (.bool true)).alloc (.cells #[.int .i64 (d:Int),.int .u64 (s:Int),.bool z] 92));have X:=hid ((VB.out.setCell (p:=⟨g,k*3+2,none⟩) (by dsimp only;omega) (.bool true)).alloc (by rw[kxb];exact hz) (.cells #[.int .i64 (d:Int),.int .u64 (s:Int),.bool z] 92));have HN:Hid (R.set k ⟨(d:Int),s,true⟩=flQ (a:Int) (dw.take (k+1))++dw.drop (k+1)):=hid (by rw[Y3.out,Jb.out]);clear J;go_wp2;go_roundw
   case rel=>exact⟨k+1,R.set k ⟨(d:Int),s,true⟩,by omega,by go_num,HN,V0N,P,O,Z,X⟩
   case measure=>simp[intOf];omega
  have Jb:Hid (flB (a:Int) ⟨(d:Int),s,z⟩=⟨(d:Int),s,z⟩):=hid (by unfold flB;rw[if_neg (show ¬ (d:Int)/8=(a:Int)/8 by omega)]);rw[decide_eq_false J] at Ji;have Z:=hid (M.out.alloc (.cells #[.int .i64 (d:Int),.int .u64 (s:Int),.bool z] 92));have O:=hid (VO.out.alloc (.cells #[.int .i64 (d:Int),.int .u64 (s:Int),.bool z] 92));have V0N:=hid (V0.out.alloc (.cells #[.int .i64 (d:Int),.int .u64 (s:Int),.bool z] 92));have P:=hid (V1.out.alloc (.cells #[.int .i64 (d:Int),.int .u64 (s:Int),.bool z] 92));have X:=hid (VB.out.alloc hz (.cells #[.int .i64 (d:Int),.int .u64 (s:Int),.bool z] 92));have HN:Hid (R=flQ (a:Int) (dw.take (k+1))++dw.drop (k+1)):=hid (Y2.out Jb.out).symm;clear J;go_wp2;go_roundw
  case rel=>exact⟨k+1,R,by omega,by go_num,HN,V0N,P,O,Z,X⟩
  case measure=>simp[intOf];omega
 have Jf:k=dw.length:=by omega
 have Ke:Hid (wr.ownsRow N.heap.size 92 3 (.slice t dw.length r) dw.length ((flQ (a:Int) dw).flatMap Dw.cells)):=hid (by
  have h:=M.out;rw[Jk.out,Jf,<-Ka.out] at h;exact h)
 have hend:decide ((k:Int)<(dw.length:Int))=false:=by rw[kqh];omega
 have hendn:decide (k<dw.length)=false:=by rw[kqh];exact D
 clear D K Jf;go_wp2_with (first
  | ((with_reducible refine aM 79 (.tmp 2) ?_);refine ldD V0.out ?_)
  | ((with_reducible refine aq 79 (.tmp 4) _ ?_);refine stD V1.out ?_;intro w9 S u))
 have hgw1:w.heap.size+1<N.heap.size:=q;refine kqr (v:=.tuple #[.agg #[.slice A1 n Y,.slice t dw.length r,.int .i64 l2,.bool dn],.int .i64 0]) (a9 results182 _ S.out rfl rfl rfl) rfl ⟨⟨_,rfl,by
  rw[HV.out];exact⟨A1,Y,t,r,by rw[B.out,Jm.out],by rw[B.out];exact Jp,by rw[B.out];exact ao (ap VO.out u.out q) j.out.size,by rw[Jm.out];exact ao (ap Ke.out u.out q) j.out.size⟩⟩,u.out.below VB.out (by omega)⟩
end Go.Proofs.YtpcajamacpbjcaaGreat
