import Derived.RangeFuncNested
import Derived.RangeFuncBound
import Derived.Shelf.RegionOpen
import Derived.OwnWalkIn
import Derived.LoopNIn
import Derived.LoopIn
import Derived.Laws.EntriesVeiled
import Derived.Test.YtpcajamacpbjcaaGreatZKHead
set_option maxHeartbeats 16000000
set_option maxRecDepth 100000
set_option linter.all false
namespace Go.Proofs.YtpcajamacpbjcaaGreat
open Go.RowKit
variable {ops:Array Oper}{r s:Int}{l:List Bk}{G:List Nat}{xs:List Value}{B H a b i k n:Nat}{P:Program}{β:Type}{t:TypeId}{v:Value}{w w':World}
open Go.Proofs.Tryz
theorem Iq(A:Option Addr)(l:List Bk)(c n:Nat)(w:World)(b:l.length=n)(hm:n<=9223372036854775807)(a:RdB w w.heap.size A l):
 Calls prog 282 #[.slice A n c] w λe g=>e=.returned (.int .i64 (cx l))/\Below w.heap.size w g:=by
 subst b;have N:=y5 a;clear a;by_cases h:1024<l.length
 .have C:=y5 (tL h);go_enter func282,ntmps282;go_wp2;go_ret;exact⟨by rw[C.out];rfl,kqe _ _⟩
 have G:l.length<=1024:=(by omega);clear h;have d1:decide ((1024:Int)<(l.length:Int))=false:=(by rw[kqb];omega);go_enter func282,ntmps282;go_wp2_with fail;go_loopw [3,13] (λu i wr=>∃k:Nat,k<=l.length/\i=.int .i64 k/\u=.int .i64 (eD l k)/\dl l k=true/\Below w.heap.size w wr) (λ_ i _=>l.length-(intOf i).toNat)
 case atStart=>exact⟨0,kqv _,rfl,rfl,rfl,kqe _ _⟩
 obtain⟨k,hk,rfl,rfl,a,d⟩:=hrel;have t:=y5 a;have v:=d.size;obtain⟨H,I⟩:=pq a;clear a;by_cases r:k<l.length
 .obtain ⟨b,e,rfl,s,J,y,z,K,L,M⟩ := N.out.at_ r;replace J := (d.cell (p := ⟨b,e+k*6,none⟩) s).trans J;replace y := (d.cell (p := ⟨b,e+k*6+1,none⟩) s).trans y;replace z := (d.cell (p := ⟨b,e+k*6+2,none⟩) s).trans z;replace K := (d.cell (p := ⟨b,e+k*6+3,none⟩) s).trans K;replace L := (d.cell (p := ⟨b,e+k*6+4,none⟩) s).trans L;replace M := (d.cell (p := ⟨b,e+k*6+5,none⟩) s).trans M;have E := y5 (bG l k r);have f:eD l (k+1)=(gk l k).at_+(gk l k).size := rfl;rw[E.out] at f;generalize a:l[k]=x at *;have HX := y5 a;clear a;obtain⟨a,o,B,xt,xm,xn⟩ := x;dsimp only at *;have m := y5 f;clear f;generalize f:eD l k=u at *;have q := y5 f;clear f;have f:Hid (∀g:World,¬ ((B=1\/B=2)/\2<=o/\o<=2048/\o%2=0/\128<=a/\a%2=0/\a<=2048-o/\(k=0\/a=u))->Below w.heap.size w g->Ending.returned (.int .i64 8)=.returned (.int .i64 (cx l))/\Below w.heap.size w g):=
   λ_ y z=>⟨by rw[wT (AA E.out q.out y) r],z⟩
  have g:Hid (((B=1\/B=2)/\2<=o/\o<=2048/\o%2=0/\128<=a/\a%2=0/\a<=2048-o/\(k=0\/a=u))->dl l (k+1)=true):=λh=>tH E.out q.out t.out h;by_cases i:k=0
  .have F:((k:Int)==0)=true:=(by rw[kqw];omega);obtain⟨j,D⟩:=yq0 i (show u=128 by rw[<-q.out,i];rfl);have u:=D.out;subst u;clear i H I;by_cases hmx:128<=a
   .have u:(if (128:Int)<a then a else 128)=a:=by split<;>omega
    go_wp2_with fail
    all_goals first
     | (go_ret;exact f.out _ (by omega) (d.alloc v _))
     | (
      go_roundw
      case rel=>exact⟨k+1,by omega,by go_num,by rw[m.out],g.out (by have:=j.out;omega),d.alloc v _⟩
      case measure=>simp[intOf];omega)
   have u:(if (128:Int)<a then a else 128)=128:=by rw[if_neg (by omega)]
   go_wp2_with fail
   all_goals (go_ret;exact f.out _ (by omega) (d.alloc v _))
  have F:((k:Int)==0)=false:=(by rw[kqc];omega);have j:=y5 i;clear i;go_wp2_with fail
  all_goals first
   | (go_ret;exact f.out _ (by have:=j.out;omega) (d.alloc v _))
   | (
    go_roundw
    case rel=>exact⟨k+1,by omega,by go_num,by rw[m.out];first | go_num | (congr 1;omega),g.out (by have:=j.out;omega),d.alloc v _⟩
    case measure=>simp[intOf];omega)
 have:k=l.length:=(by omega);subst this;have C:=y5 (rQ G t.out);go_wp2;go_ret;exact⟨by rw[C.out];rfl,d⟩
open Go.RowKit Go.Shelf
attribute [local go_sem] Oper.semAt_some
abbrev Idx (l:List Bk):={ k:Nat // k<l.length }
def lp (l:List Bk):Nat->List (Idx l)
 | 0=>[]
 | k+1=>if h:k<l.length/\aE (gk l k)=true then lp l k++[⟨k,h.1⟩] else lp l k
theorem lp_len(l:List Bk)(k:Nat):(lp l k).length<=k:=by
 induction k with
 | zero=>simp[lp]
 | succ k ih=>simp only[lp];split<;>(try simp only[kqu,kq4,kxd])<;>omega
theorem vN(h:k<l.length)(a:aE (gk l k)=true):lp l (k+1)=lp l k++[⟨k,h⟩]:=by simp only[lp];rw[dif_pos ⟨h,a⟩]
theorem DM(a:aE (gk l k)=false):lp l (k+1)=lp l k:=by simp only[lp];rw[dif_neg (λh=>by rw[a] at h;exact Bool.false_ne_true h.2)]
theorem E3(F:Fence)(n:Nat)(Y:F.fn 283)(L:F.round=none)(hn:1<=n)(l N w:Nat)(A:Option Addr)(a:List Bk)(C:Nat)(hlen:a.length<=4294967296)(J O:List (Idx a)->World->Prop)(c:∀s W o,J s W->J s (W.alloc o))(d:∀pre x W,J pre W->pre.length<a.length->YieldAt F (n-1) prog l #[.int .i64 (x.1:Int),(gk a x.1).val] W λe b =>
  (e=.returned (.bool true)/\J (pre++[x]) b/\Below w W b)\/(e=.returned (.bool false)/\O (pre++[x]) b))(W:World)(hn0:w<=W.heap.size)(hBs:W.cell? ⟨N,0,none⟩=some (.slice A a.length C))(f:RdB W w A a)(u:J [] W):
 CallsIn F n prog 283 #[.func (.yield l) #[] #[],.pointer (some ⟨N,0,none⟩)] W λe b=>(∃v,e=.returned v) /\
  ((∃ys,ys=lp a a.length/\J ys b)\/(∃pre,(∃k,pre=lp a k)/\O pre b)):=by
 obtain⟨U,V,z⟩:=yq1 f d c;clear f d c;refine callsIn_of_wp func283 rfl Y ?_ L;simp only[ntmps283,kkd,kq4,kxd,Nat.reduceAdd,Nat.reduceSub,kkq,kkr,kk9,kku,kz5,kzq]
 gi_wp2
 gi_loopw [7] (λi wr=>∃k:Nat,k<=a.length/\i=.int .i64 k/\J (lp a k) wr/\Below w W wr)
  (λi _=>a.length-(intOf i).toNat)
 case atStart=>exact⟨0,kqv _,rfl,u,kqe _ _⟩
 obtain⟨k,hk,rfl,i,c⟩:=hrel;have hz:=c.size;by_cases g:k<a.length
 .obtain ⟨b,f,rfl,q,u,D,E,G,H,I⟩:=U.out.at_ g;replace u:=(c.cell (p:=⟨b,f+k*6,none⟩) q).trans u;replace D:=(c.cell (p:=⟨b,f+k*6+1,none⟩) q).trans D;replace E:=(c.cell (p:=⟨b,f+k*6+2,none⟩) q).trans E;replace G:=(c.cell (p:=⟨b,f+k*6+3,none⟩) q).trans G;replace H:=(c.cell (p:=⟨b,f+k*6+4,none⟩) q).trans H;replace I:=(c.cell (p:=⟨b,f+k*6+5,none⟩) q).trans I;have d:=V.out (lp a k) ⟨k,g⟩;dsimp only at d;rw[<-bG a k g] at u D E G H I;have m:Hid (aE (gk a k)=true->lp a (k+1)=lp a k++[⟨k,g⟩]):=vN g;have r:Hid (aE (gk a k)=false->lp a (k+1)=lp a k):=DM;have B:=y5 d;have hpl:=lp_len a k;clear d;generalize gk a k=x at *;obtain⟨Q,S,y,T,M,R⟩:=x;dsimp only at *;cases d:aE ⟨Q,S,y,T,M,R⟩
  .have t:=y5 (r.out d);by_cases j:y=1
   .have K:M=false:=by subst j;simpa [aE] using d
    subst j K;clear d
    gi_wp2
    refine⟨λ_ h=>(by cases h),?_⟩
    gi_wp2
    go_roundw;exact⟨k+1,by omega,by go_num,by rw[t.out];exact z.out _ _ _ i,c.alloc (by omega) _⟩;simp[intOf];omega
   have hkb:(y==1)=false:=by rw[kqc];exact j
   clear d j
   gi_wp2
   refine⟨λ_ h=>(by cases h),?_⟩
   gi_wp2
   go_roundw;exact⟨k+1,by omega,by go_num,by rw[t.out];exact z.out _ _ _ i,c.alloc (by omega) _⟩;simp[intOf];omega
  have j:y=1/\M=true:=by simpa [aE] using d
  obtain⟨rfl,rfl⟩:=j;obtain⟨fn,tmps,assign,body,P,X⟩:=B.out (wr.alloc (.cells #[.int .i64 Q,.int .i64 S,.int .i64 1,.int .i64 T,.bool true,.int .u64 (R:Int)] 55)) (z.out _ _ _ i) (by omega);unfold Bk.val at P;dsimp only at P
  gi_wp2
  refine X.mono ?_;rintro e W3 (⟨rfl,t,K⟩|⟨rfl,h⟩)
  .gi_wp2
   go_roundw;exact⟨k+1,by omega,by go_num,by rw[m.out d];exact t,(c.alloc (by omega) _).trans K⟩;simp[intOf];omega
  gi_wp2
  refine kqq (results_none rfl _ _ _) rfl ?_;exact⟨⟨_,rfl⟩,.inr ⟨_,⟨k+1,(m.out d).symm⟩,h⟩⟩
 obtain rfl:k=a.length:=(by omega);gi_wp2
 go_end0;exact⟨⟨_,rfl⟩,.inl ⟨_,rfl,i⟩⟩
theorem IA(F:Fence)(n:Nat)(h:F.fn 254)(c:F.round=none)(A:Option Addr)(b a:Nat)(w:World):
 CallsIn F n prog 254 #[.slice A b a] w λe d=>e=.returned (.func (.func 283) #[] #[.pointer (some ⟨w.heap.size,0,none⟩)])/\d=w.alloc (.cells #[.slice A b a] 48):=by
 refine callsIn_of_wp func254 rfl h ?_ c;simp only[ntmps254,kkd,kq4,kxd,Nat.reduceAdd,Nat.reduceSub,kkq,kkr,kk9,kku,kz5,kzq]
 gi_wp2
 go_ret;exact⟨rfl,rfl⟩
theorem xW(F:Fence)(n:Nat)(v:F.fn 283)(j:F.round=none)(y:1<=n)(b g:Nat)(A:Option Addr)(a:List Bk)(c:Nat)(d:a.length<=4294967296)(w:World)(h:b<w.heap.size)(f:g<=w.heap.size)(u:w.cell? ⟨b,0,none⟩=some (.slice A a.length c))(q:RdB w g A a):
 SeqStopsK F n prog 283 #[.pointer (some ⟨b,0,none⟩)] (λx:Idx a=>#[.int .i64 (x.1:Int),(gk a x.1).val]) (Below g) (λe=>e=lp a a.length) (λe=>∃k,e=lp a k) a.length w:=λl J e W i r _ t m =>
 E3 F n v j y l b g A a c d J e (λs W o e=>r s W _ none e (World.grownBy_alloc W o none) (λr e=>by cases e)) t W (kzu f i.size) ((i.cell (p:=⟨b,0,none⟩) h).trans u) (q.below (i.mono f)) m
attribute [local go_sem] Oper.semAt_some
theorem nH:(prog.info? 3).map (λi=>(i.zero,i.size,i.bytes))=some (some (.int .i64 0),1,8):=by kernel_rfl
def Bk.arr (b:Bk):Array Value:=#[.int .i64 b.at_,.int .i64 b.size,.int .i64 b.kind,.int .i64 b.typ,.bool b.mark,.int .u64 (b.next:Int)]
theorem wC(B:Nat)(t:TypeId)(f:β->Array Value):Own (λs W=>Bx W B t (f s)):=λs X Y row c b a =>
 Bx.grown c b (λd=>by obtain⟨o,b,e⟩:=a B d.symm;rw[show X.heap[B]? = _ from c] at b;cases b;cases e)
def uk (l:List Bk):List (Idx l)->Int
 | []=>0
 | x::p=>uk l p+(gk l x.1).size
theorem wV(l:List Bk)(p:List (Idx l))(x:Idx l):uk l (p++[x])=uk l p+(gk l x.1).size:=by
 induction p with
 | nil=>simp[uk]
 | cons y p a=>simp only[kzq,uk,a];omega
theorem szSum_lp(hk:k<=l.length)(s:Int):s+uk l (lp l k)=aN (l.take k) s:=by
 induction k with
 | zero=>simp[lp,uk,aN]
 | succ k b =>
  have:=b (by omega);rw[gN (by omega),<-bG l k (by omega)];cases a:aE (gk l k)
  .rw[DM a,this];simp
  rw[vN (by omega) a,wV];simp;omega
theorem Cu(h:cx l=0)(x:Idx l):2<=(gk l x.1).size/\(gk l x.1).size<=2048:=by have:=(fd _).1 (eF (dE h).2 x.2).1;omega
theorem sr(A:Option Addr)(l:List Bk)(c n:Nat)(s:Int)(w:World)(b:l.length=n)(D:n<=9223372036854775807)(a:RdB w w.heap.size A l)(E : -9223372036854775808<=s/\s<=9223372036854775807):
 Calls prog 252 #[.slice A n c,.int .i64 s] w λe d=>e=.returned (.int .i64 (eX l s))/\Below w.heap.size w d:=by
 subst b;have B:=y5 a;clear a;have r:Hid (cx l≠0->eX l s=cx l):=λh=>GD h;have o:Hid (cx l=0->s<128\/oG l<s\/s%2≠0->eX l s=2):=λh a=>Jh h a;have m:Hid (cx l=0->128<=s/\s<=oG l/\s%2=0->eX l s=0):=λh a=>Ai h a;obtain⟨sb1,sb2⟩:=E;have u:Hid (s%2=0)/\(s%2 != 0)=false\/Hid (s%2≠0)/\(s%2 != 0)=true:=by
  by_cases h:s%2=0
  .exact .inl ⟨h,by rw[kqt];exact h⟩
  exact .inr ⟨h,by rw[kqx];exact h⟩
 have g:Hid (oG l=2048)/\l.length=0\/0<l.length:=by
  by_cases h:l.length=0
  .exact .inl ⟨by simp[Hid,oG,h],h⟩
  exact .inr (by omega)
 rcases u with⟨f,t⟩|⟨f,t⟩
 all_goals
  go_enter func252,ntmps252;go_wp2_with fail;refine (Iq A l c l.length _ rfl D B.out).mono ?_;rintro e w1 ⟨rfl,d⟩;by_cases a:cx l=0
  .have j:=y5 a;rw[a];clear a;rcases g with⟨k,y⟩|v
   .have v:¬ 0<l.length:=(by omega);clear y;go_wp2_with fail
    all_goals
     go_ret
     first
      | exact⟨by rw[o.out j.out (by rw[k.out];have:=f.out;omega)];rfl,d⟩
      | exact⟨by rw[m.out j.out (by rw[k.out];have:=f.out;omega)];rfl,d⟩
   obtain⟨b,z,rfl,C,q,-⟩:=B.out.at_ v;replace q:=(d.cell (p:=⟨b,z+0*6,none⟩) C).trans q;have i:=y5 (show oG l=l[0].at_ by simp only[oG,show l.length≠0 from by omega,if_false];rw[bG l 0 v]);simp only[kve,kxb] at q;obtain⟨F,g⟩:=xq (l[0].at_);rw[g] at q;have k:=y5 (show oG l=F by rw[i.out,g]);have hdd:(0:Int)<(l.length:Int):=(by omega);clear g i;go_wp2_with fail
   all_goals
    go_ret
    first
     | exact⟨by rw[o.out j.out (by rw[k.out];have:=f.out;omega)];rfl,d⟩
     | exact⟨by rw[m.out j.out (by rw[k.out];have:=f.out;omega)];rfl,d⟩
  have b:=y5 (r.out a);have hn1:(cx l==0)=false:=by rw[kqc];exact a
  have hn2:(cx l != 0)=true:=by rw[kqx];exact a
  clear a;go_wp2;go_ret;exact⟨by rw[b.out];rfl,d⟩
def jR (l:List Bk) (s:Int):List Int:=if eX l s=0 then aQ l s else []
def Az (l:List Bk) (s:Int) (e:Ending) (w':World):Prop:=∃A c,e=.returned (.tuple #[.slice A (jR l s).length c,.int .i64 (eX l s)])/\RdI w' w'.heap.size A (jR l s)/\(jR l s).length<=c
theorem sQ(d:eX l s=0)(a:l.length=n)(h:w'.ownsRow H 3 1 v n ((aQ l s).flatMap aV)):Az l s (.returned (.tuple #[v,.int .i64 0])) w':=by
 subst a;have e:(jR l s).length=l.length:=by simp[jR,d,de]
 have f:∃A c,v=.slice A l.length c/\l.length<=c:=by
  rcases h.2 with⟨rfl,b⟩|⟨g,cap,cur,rfl,_,_,a,_⟩
  .exact ⟨none,0,by rw[b],by omega⟩
  exact⟨_,_,rfl,a⟩
 obtain⟨A,c,rfl,a⟩:=f;refine⟨A,c,by rw[e,d],?_,by rw[e];exact a⟩;have:=Rd.of_own h
 simpa [RdI,jR,d] using this
theorem DD(b:eX l s=r)(a:r≠0):Az l s (.returned (.tuple #[.slice none 0 0,.int .i64 r])) w':=by
 subst b;have:jR l s=[]:=by simp[jR,a]
 exact⟨none,0,by rw[this];rfl,by rw[this];exact Rd.nil_,by rw[this];simp⟩
attribute [local go_sem] Oper.semAt_some
def kc (Q:Exit->Act->World->Prop):Exit->Act->World->Prop
 | .normal,a,w=>Q .normal a w
 | _,_,_=>False
theorem Hl{l:Nat}{Q:Exit->Act->World->Prop}(k:∀o∈ops.toList,∀c,o.op≠.defer c){K:Act->World->Prop}{a:Act}(h:wpOp P ops (kc Q) i K a w):wpOpIn (Fence.wide.inRound l) n P ops Q i K a w:=by
 unfold wpOp at h;unfold wpOpIn;split
 .rename_i e
  simpa only[e] using h
 rename_i o ho;simp only[ho] at h;split
 .rename_i hw;simp only[hw,if_true] at h;rcases h with h|⟨_,_,_,h⟩
  .refine ⟨λ_ _=>trivial,?_⟩;have g:o∈ops.toList:=by obtain⟨hlt,b⟩:=kjk.1 ho;rw[<-b];simp
   rw[Oper.semAt_eq _ _ _ (k o g)];unfold Oper.wp at h;generalize (execOp a.eval o).run P w=r at *;cases r with
   | ok x j =>
    cases x<;>simp only[Oper.upon,Oper.uponIn] at h |-
    case value u=>exact h
    case skip=>exact h
    case defer d=>exact h
    case enter f args =>
     refine⟨λh=>(by cases h),CallsIn.inRound l (callsIn_wide.2 (h.mono λe w'' b=>?_))⟩;cases e with
     | returned u=>exact b
     | panicked c=>exact b.elim
     | outgrown=>obtain⟨_,_,b⟩:=b;exact b.elim
    case row row args =>
     exact⟨λh=>(by cases h),λc e _=>(let ⟨v,j,q,s⟩:=h c e;⟨v,j,q,stepsIn_wide.2 s⟩)⟩
   | halt x j =>
    cases x<;>simp only[Oper.upon,Oper.uponIn] at h |-
    case panic u=>exact h.elim
  exact h.elim
 rename_i hw;simp only[hw] at h;exact⟨λ_ _=>trivial,h⟩
theorem vz{l:Nat}{md:Region.Mode}{Q:Exit->Act->World->Prop}(b:∀o∈ops.toList,∀c,o.op≠.defer c):
 ∀(fuel:Nat) (listed:Array Bool) (a:Act) (w:World),wpAny P md ops (kc Q) fuel listed a w->wpAnyIn (Fence.wide.inRound l) n P md ops Q fuel listed a w
 | 0,_,_,_,h=>h
 | fuel+1,_,_,_,h=>⟨h.1,λi f=>wpOpIn_mono (λd g e=>vz b fuel _ d g e) (Hl b (h.2 i f))⟩
theorem sS{l:Nat}{id:Nat}{Q:Exit->Act->World->Prop}{a:Act}(S:World->Prop)(d:P.follows .mixedOrders=true)(b:∀o∈ops.toList,∀c,o.op≠.defer c)(h:wpAnyH P .any ops (kc Q) S ops.size (Array.replicate ops.size false) a w.drew):(Code.region id ops true).wpIn (Fence.wide.inRound l) n P Q a w:=
 wpIn_region_any d (vz b _ _ _ _ (wpAny_of_held _ _ _ _ h))
theorem Iz(u m:Int)(g:Nat)(w:World)(h1:0<=u)(h2:u<=2048)(h3:0<=m)(h4:m<=2200000)(hc:w.cell? ⟨g,0,none⟩=some (.int .i64 m))(hf:w.frozen? ⟨g,0,none⟩=false):
 Calls prog 253 #[.int .i64 u,.pointer (some ⟨g,0,none⟩)] w λe a=>e=.returned (.int .i64 m)/\w.setCell ⟨g,0,none⟩ (.int .i64 (m+u))=a:=by go_enter func253,ntmps253;go_wp2;go_ret;exact⟨Ix (by omega),rfl⟩
theorem C7(B:Nat)(t:TypeId)(n:Nat)(f:β->Nat->Value):Own (λs W=>W.rowIs B t n (f s)):=λs X Y row e d a=>by obtain⟨c,b,g,h⟩:=e;refine⟨c,(d.block B (kjk.1 b).1 (λe=>?_)).trans b,g,h⟩;obtain⟨o,d,i⟩:=a B e.symm;rw[b] at d;cases d;cases i
def gO (l:List Bk) (s:Int) (pre:List (Idx l)):Int × (Nat->Int):=
 pre.foldl (λst x=>(st.1+(gk l x.1).size,λj=>if j=x.1 then st.1 else st.2 j)) (s,λ_=>0)
theorem kf(l:List Bk)(s:Int)(a:List (Idx l))(x:Idx l):
 gO l s (a++[x])=((gO l s a).1+(gk l x.1).size,λj=>if j=x.1 then (gO l s a).1 else (gO l s a).2 j):=by simp[gO]
theorem FZ(h:cx l=0)(s:Int)(a:List (Idx l)):s<=(gO l s a).1/\(gO l s a).1<=s+2048*a.length:=by
 have d:∀(n:Nat) (a:List (Idx l)),a.length=n->s<=(gO l s a).1/\(gO l s a).1<=s+2048*a.length:=by
  intro n
  induction n with
  | zero=>intro a c;rw[kxe c];simp[gO]
  | succ n f =>
   intro a c;have b:a≠[]:=by intro e;subst e;simp at c
   obtain⟨q,x,rfl⟩:∃q x,a=q++[x]:=⟨a.dropLast,a.getLast b,(List.dropLast_concat_getLast b).symm⟩;have:=f q (by simpa using c);have hx:=Cu h x;rw[kf];simp only[kqu,kq4,kxd];omega
 exact d _ a rfl
theorem ED(s:Int)(h:k<=l.length):(gO l s (lp l k)).1=aN (l.take k) s/\∀j,j<k->(gO l s (lp l k)).2 j=(aQ (l.take k) s)[j]?.getD 0:=by
 induction k with
 | zero=>simp[lp,gO,aN]
 | succ k c =>
  obtain⟨d,g⟩:=c (by omega);have f:(aQ (l.take k) s).length=k:=by rw[de,kq6];omega
  have b:∀ {m:Nat},k<=m->m<=l.length->(gO l s (lp l k)).2 m=0:=by
   intro m e _;have:∀(k:Nat),k<=l.length->∀m,k<=m->(gO l s (lp l k)).2 m=0:=by
    intro k h
    induction k with
    | zero=>intro m _;rfl
    | succ k c =>
     intro m e;cases a:aE (gk l k)
     .rw[DM a];exact c (by omega) m (by omega)
     rw[vN (by omega) a,kf];dsimp only;rw[if_neg (by omega)];exact c (by omega) m (by omega)
   exact this k (by omega) m e
  rw[gN (by omega),iV (by omega),<-bG l k (by omega)];cases a:aE (gk l k)
  .rw[DM a];refine⟨by simp[d],λj c=>?_⟩;by_cases e:j=k
   .subst e;rw[b (kqa _) (by omega),kxn (by omega),f];simp
   rw[kks (by omega)];exact g j (by omega)
  rw[vN (by omega) a,kf];refine⟨by simp[d],λj c=>?_⟩;dsimp only;by_cases e:j=k
  .subst e;rw[if_pos rfl,kxn (by omega),f];simp[d]
  rw[if_neg e,kks (by omega)];exact g j (by omega)
theorem rD{f:Nat->Value}(h:w.rowIs B t n f)(d:H<=B)(g:n<=maxLen)(hl:xs.length=n)(j:∀i,i<n->xs[i]? = some (f i)):
 w.ownsRow H t 1 (.slice (some ⟨B,0,none⟩) n n) n xs:=by
 obtain⟨c,e,h1,b⟩:=h;refine⟨by omega,.inr ⟨B,n,c,rfl,d,e,kqa _,g,by omega,?_⟩⟩;apply kjm;intro i;by_cases a:i<n
 .rw[List.getElem?_take_of_lt (by omega),j i a,<-b i a];simp
 rw[kzj (by rw[kq6];simp;omega),kzj (by omega)]
theorem Dd(A:Option Addr)(l:List Bk)(c n:Nat)(s:Int)(w:World)(a:l.length=n)(hm:n<=4294967296)(Z:RdB w w.heap.size A l)(O : -9223372036854775808<=s/\s<=9223372036854775807):
 CallsIn Fence.wide 6 prog 206 #[.slice A n c,.int .i64 s] w λe z =>
  (eX l s=0->∃v,e=.returned (.tuple #[v,.int .i64 0])/\z.ownsRow w.heap.size 3 1 v n ((aQ l s).flatMap aV))/\(eX l s≠0->e=.returned (.tuple #[.slice none 0 0,.int .i64 (eX l s)]))/\Below w.heap.size w z:=by
 subst a;have HR:=y5 Z;clear Z;by_cases E:eX l s=0
 .obtain ⟨a,hs1,hs2,_⟩:=dx E;have hlen:=(dE a).1;have hmb:=zG a;have hmk:=run_make_row' (P:=prog) 42 3 (.int .i64 0) 8 underlying42 nH rfl .i64 .i64 l.length (by omega) (by omega);have o:=sr A l c l.length s (w.alloc (.cells #[.int .i64 s] 3)) rfl (by omega) ((HR.out.alloc (kqa _) _).more (by simp)) O;rw[E] at o;obtain⟨F,U⟩:=yq0 o a;refine CallsIn.mono (R:=λe z=>(∃v,e=.returned (.tuple #[v,.int .i64 0])/\z.ownsRow w.heap.size 3 1 v l.length ((aQ l s).flatMap aV))/\Below w.heap.size w z) ?_ (λe z h=>⟨λ_=>h.1,λh'=>absurd E h',h.2⟩);clear E o a;refine callsIn_of_wp_marks func206 rfl trivial ?_ rfl;simp only[ntmps206,kkd,kq4,kxd,Nat.reduceAdd,Nat.reduceSub,kkq,kkr,kk9,kku,kz5,kzq]
  gi_wp2
  refine⟨trivial,(callsIn_wide.2 F.out).mono ?_⟩;rintro e b ⟨rfl,f⟩;rw[kqm] at f;have g:=Bx.of_new f;have d:=az f;have Kg:=d.size
  gi_wp2
  refine⟨trivial,(IA Fence.wide _ trivial rfl A l.length c _).mono ?_⟩;rintro e w2 ⟨rfl,rfl⟩;have m:((b.alloc (.cells #[.func (.func 253) #[] #[.pointer (some ⟨w.heap.size,0,none⟩)]] 272)).alloc (.cells (madeCells #[.int .i64 0] l.length) 3)).rowIs (b.heap.size+1) 3 l.length (λ_=>.int .i64 0):=by have:=World.rowIs_made (b.alloc (.cells #[.func (.func 253) #[] #[.pointer (some ⟨w.heap.size,0,none⟩)]] 272)) (.int .i64 0) l.length 3;rwa [kqm] at this
  have q:=Bx.new b 272 #[.func (.func 253) #[] #[.pointer (some ⟨w.heap.size,0,none⟩)]];obtain⟨J,a⟩:∃J,b.alloc (.cells #[.func (.func 253) #[] #[.pointer (some ⟨w.heap.size,0,none⟩)]] 272)=J:=⟨_,rfl⟩;have t:Bx J w.heap.size 3 #[.int .i64 s]:=by rw[<-a];exact g.alloc _
  have i:Below w.heap.size w J:=by rw[<-a];exact d.alloc Kg _
  have j:J.heap.size=b.heap.size+1:=by rw[<-a];simp
  rw[a] at m q |-;clear a g d;obtain⟨H,a⟩:=xq (madeCells #[Value.int .i64 0] l.length);rw[a] at m |-;have p:=t.alloc (.cells H 3);have r:=q.alloc (.cells H 3);have d:=i.alloc (by omega) (.cells H 3);have g:(J.alloc (.cells H 3)).heap.size=b.heap.size+2:=by simp[j]
  obtain⟨S,k⟩:=xq (J.alloc (.cells H 3));rw[k] at m p r d g |-;clear k a t q i j;have i:=Bx.new S 42 #[.slice (some ⟨b.heap.size+1,0,none⟩) l.length l.length];have b2:=(p.alloc (.cells #[.slice (some ⟨b.heap.size+1,0,none⟩) l.length l.length] 42)).alloc (.cells #[.slice A l.length c] 48);have f2:=(r.alloc (.cells #[.slice (some ⟨b.heap.size+1,0,none⟩) l.length l.length] 42)).alloc (.cells #[.slice A l.length c] 48);have r2:=(m.alloc (.cells #[.slice (some ⟨b.heap.size+1,0,none⟩) l.length l.length] 42)).alloc (.cells #[.slice A l.length c] 48);have o2:=i.alloc (.cells #[.slice A l.length c] 48);have G:=(d.alloc (by omega) (.cells #[.slice (some ⟨b.heap.size+1,0,none⟩) l.length l.length] 42)).alloc (by simp;omega) (.cells #[.slice A l.length c] 48);have c1:=Bx.new (S.alloc (.cells #[.slice (some ⟨b.heap.size+1,0,none⟩) l.length l.length] 42)) 48 #[.slice A l.length c];have Ke:((S.alloc (.cells #[.slice (some ⟨b.heap.size+1,0,none⟩) l.length l.length] 42)).alloc (.cells #[.slice A l.length c] 48)).heap.size=b.heap.size+4:=by simp[g]
  rw[g] at o2;rw[kqm,g] at c1;obtain⟨W0,a⟩:∃W0,(S.alloc (.cells #[.slice (some ⟨b.heap.size+1,0,none⟩) l.length l.length] 42)).alloc (.cells #[.slice A l.length c] 48)=W0:=⟨_,rfl⟩;rw[a] at b2 f2 r2 o2 G c1 Ke |-;clear a m p r d i
  gi_wp2
  refine wpIn_rangeFunc_ownH rfl (show 1<=6 by omega) (gf:=283) (lb:=#[.pointer (some ⟨b.heap.size+2+1,0,none⟩)]) rfl trivial (enters_of func283 (by kernel_rfl) rfl)
   (xW Fence.wide 5 trivial rfl (by omega) (b.heap.size+2+1) w.heap.size A l c (by omega) W0 (by omega) (by omega) (c1.c1).1 ((HR.out).below G)) belowK_t (belowK_b (by omega)) (kqe _ _) (λ_=>rfl)
   (λd W=>(Bx W w.heap.size 3 #[.int .i64 (gO l s d).1]/\Bx W b.heap.size 272 #[.func (.func 253) #[] #[.pointer (some ⟨w.heap.size,0,none⟩)]]/\Bx W (b.heap.size+2) 42 #[.slice (some ⟨b.heap.size+1,0,none⟩) l.length l.length]/\W.rowIs (b.heap.size+1) 3 l.length (λj=>.int .i64 ((gO l s d).2 j)))/\Below w.heap.size w W)
   (λ_ _ _=>False)
   (OwnFrom.and (OwnFrom.and (Own.from (wC _ _ _) _) (OwnFrom.and (Own.from (wC _ _ _) _) (OwnFrom.and (Own.from (wC _ _ _) _) (Own.from (C7 _ _ _ _) _)))) (ownFrom_below (kqa _) (by omega)))
   (λ_ _ _ _ _ O _ _=>O)
   ⟨⟨b2,f2,o2,r2⟩,G⟩
   (λx a' W=>∃Bx',b.heap.size+2<Bx'/\Bx W Bx' 55 (gk l x.1).arr/\a'={ tmps:=#[.slice A l.length c,.int .i64 s,undef,.pointer (some ⟨w.heap.size,0,none⟩),.slice none 0 0,.int .i64 0,.int .i64 0,.pointer (some ⟨b.heap.size,0,none⟩),.pointer (some ⟨b.heap.size+1+1,0,none⟩),.int .i64 (x.1:Int),.pointer (some ⟨Bx',0,none⟩),.slice A l.length c,.int .i64 s,.int .i64 0,.int .i64 0,.bool false,undef,.func (.func 253) #[] #[.pointer (some ⟨w.heap.size,0,none⟩)],.slice A l.length c,.int .i64 (l.length:Int),.slice (some ⟨b.heap.size+1,0,none⟩) l.length l.length,.slice A l.length c,.func (.func 283) #[] #[.pointer (some ⟨b.heap.size+2+1,0,none⟩)],.int .i64 (x.1:Int),(gk l x.1).val,undef,undef,undef,undef,undef,undef,undef,undef],defers:=[] })
   (λx a' _ X Y a O p Z=>by obtain⟨D,i,k,m⟩:=O;exact⟨D,i,wC D 55 (λ(_:Unit)=>(gk l x.1).arr) () X Y a k p (λr e=>(Z r e).2),m⟩)
   ?assign ?body ?done ?stop
  case assign =>
   rintro l' d x W K ⟨⟨M,L,B,C⟩,N⟩ k;have i:=N.size;obtain⟨y,a⟩:=xq (gk l x.1);rw[a] at k |-;obtain⟨xa,xs,xk,xt,xm,xn⟩:=y;unfold Bk.arr Bk.val at k;unfold Bk.val;dsimp only at k |-;have m:=y5 k;clear k a
   gi_wp2
   exact m.out _ _ ((KeepsOthers.alloc _ _).from _) ((kqe _ W).alloc i _) ⟨⟨M.alloc _,L.alloc _,B.alloc _,C.alloc _⟩,N.alloc i _⟩ ⟨W.heap.size,B.lt,Bx.new W _ _,rfl⟩
  case body =>
   rintro l' d x a' W hl ⟨r,Z⟩ ⟨⟨M,L,B,C⟩,N⟩ ⟨D,hB',bX,rfl⟩ i;have g:=FZ U.out s d;have Eq:=Cu U.out x;have Y:=y5 (kf l s d x);have hxl:=x.2;have g1:W.cell? ⟨D,1,none⟩=some (.int .i64 (gk l x.1).size):=bX.cell 1;obtain⟨s1,s2,s3⟩:=M.c1;obtain⟨t1,t2,t3⟩:=L.c1;obtain⟨o1,o2,o3⟩:=B.c1;have r1:=C.frozen x.1;have I:prog.follows .mixedOrders=true:=by kernel_rfl
   obtain⟨q,hq⟩:∃q,W.cell? ⟨b.heap.size+1,x.1,none⟩=some (.int .i64 q):=⟨_,C.cell x.2⟩;have hxi:(x.1:Int)<(l.length:Int):=(by omega);have hx0:(0:Int)<=(x.1:Int):=(by omega);have hxn:((x.1:Int)).toNat=x.1:=(by omega);obtain⟨u,p⟩:=xq ((gk l x.1).size);obtain⟨m,a⟩:=xq ((gO l s d).1);rw[p] at g1 Eq;rw[a] at s1 g;have Kc:m<=2200000:=(by omega);have Kb:0<=m:=(by omega);obtain⟨hx1,Kf⟩:=Eq;obtain⟨bS2,bR2,bF2,bO2,HU,T⟩:=yq4 M C L B p a;clear g M C L B p a i
   gi_wp2
   have t:(λX:World=>X.cell? ⟨b.heap.size+1+1,0,none⟩=some (.slice (some ⟨b.heap.size+1,0,none⟩) l.length l.length)/\X.cell? ⟨b.heap.size,0,none⟩=some (.func (.func 253) #[] #[.pointer (some ⟨w.heap.size,0,none⟩)])/\X.cell? ⟨D,1,none⟩=some (.int .i64 u)) W.drew:=⟨o1,t1,g1⟩;refine sS (λX:World=>X.cell? ⟨b.heap.size+1+1,0,none⟩=some (.slice (some ⟨b.heap.size+1,0,none⟩) l.length l.length)/\X.cell? ⟨b.heap.size,0,none⟩=some (.func (.func 253) #[] #[.pointer (some ⟨w.heap.size,0,none⟩)])/\X.cell? ⟨D,1,none⟩=some (.int .i64 u)) I (by simp) ?_;show wpAnyH _ _ _ _ _ 8 _ _ _;refine kkz (i:=0) (v:=.slice (some ⟨b.heap.size+1,0,none⟩) l.length l.length) rfl (by kernel_rfl) (by kernel_rfl) (by kernel_rfl) (λ_ _ _ h=>h) (Or.inl ⟨by rfl,?_⟩) t ?_
   .intro X a;obtain⟨q1,q2,q3⟩:=a;go_simp
   dsimp only[Act.put,kqd,kqk,kqj];refine kkz (i:=1) (v:=.int .i64 (x.1:Int)) rfl (by kernel_rfl) (by kernel_rfl) (by kernel_rfl) (λ_ _ _ h=>h) (Or.inl ⟨by rfl,?_⟩) t ?_
   .intro X a;obtain⟨q1,q2,q3⟩:=a;go_simp
   dsimp only[Act.put,kqd,kqk,kqj];refine kkz (i:=2) (v:=.func (.func 253) #[] #[.pointer (some ⟨w.heap.size,0,none⟩)]) rfl (by kernel_rfl) (by kernel_rfl) (by kernel_rfl) (λ_ _ _ h=>h) (Or.inl ⟨by rfl,?_⟩) t ?_
   .intro X a;obtain⟨q1,q2,q3⟩:=a;go_simp
   dsimp only[Act.put,kqd,kqk,kqj];refine kkz (i:=3) (v:=.pointer (some ⟨D,1,none⟩)) rfl (by kernel_rfl) (by kernel_rfl) (by kernel_rfl) (λ_ _ _ h=>h) (Or.inl ⟨by rfl,?_⟩) t ?_
   .intro X a;obtain⟨q1,q2,q3⟩:=a;go_simp
   dsimp only[Act.put,kqd,kqk,kqj];refine kkz (i:=4) (v:=.int .i64 u) rfl (by kernel_rfl) (by kernel_rfl) (by kernel_rfl) (λ_ _ _ h=>h) (Or.inl ⟨by rfl,?_⟩) t ?_
   .intro X a;obtain⟨q1,q2,q3⟩:=a;go_simp
   dsimp only[Act.put,kqd,kqk,kqj];refine kzr (rs:=[5]) (by kernel_rfl) (by simp) ?_;refine AllReadyH.cons rfl (λK k=>?_) AllReadyH.nil;go_simp;refine (Iz u m w.heap.size W.drew (by omega) Kf Kb Kc s1 s2).mono ?_;rintro e z ⟨rfl,rfl⟩;go_simp;have Ka:=f.size;rw[kqm] at Ka;have Q:∀(p:Addr),p.block≠w.heap.size->((W.setCell ⟨w.heap.size,0,none⟩ (.int .i64 (m+u))).drew).cell? p=W.cell? p:=λp hp=>kka W _ _ _ (by rintro rfl;exact hp rfl);refine k.out _ _ ⟨(Q _ (by dsimp only;omega)).trans o1,(Q _ (by dsimp only;omega)).trans t1,(Q _ (by dsimp only;omega)).trans g1⟩ (λy=>?_);clear k K;have Kd:=(Q ⟨b.heap.size+1,x.1,none⟩ (by dsimp only;omega)).trans hq;have r1':((W.setCell ⟨w.heap.size,0,none⟩ (.int .i64 (m+u))).drew).frozen? ⟨b.heap.size+1,x.1,none⟩=false:=by show (W.setCell _ _).frozen? _=_;rw[World.frozen?_setCell];exact r1
   have NE:=y5 Q;clear Q;obtain⟨V,Q⟩:∃V,(W.setCell ⟨w.heap.size,0,none⟩ (.int .i64 (m+u))).drew=V:=⟨_,rfl⟩;have HV:=y5 Q;rw[Q] at Kd r1' y |-;clear Q;refine kkz (i:=6) (v:=.pointer (some ⟨b.heap.size+1,x.1,none⟩)) rfl (by kernel_rfl) (by kernel_rfl) (by kernel_rfl) (λ_ _ _ h=>h) (Or.inl ⟨by rfl,?_⟩) y ?_
   .intro X a;obtain⟨q1,q2,q3⟩:=a;go_simp
   dsimp only[Act.put,kqd,kqk,kqj];refine kzr (rs:=[7]) (by kernel_rfl) (by simp) ?_;refine AllReadyH.cons rfl (λK k=>?_) AllReadyH.nil;go_simp;obtain⟨p1,p2,p3⟩:=y;have y:∀(p:Addr),p.block≠b.heap.size+1->(V.setCell ⟨b.heap.size+1,x.1,none⟩ (.int .i64 m)).cell? p=V.cell? p:=λp hp=>kka _ _ _ _ (by rintro rfl;exact hp rfl);refine k.out _ _ ⟨(y _ (by dsimp only;omega)).trans p1,(y _ (by dsimp only;omega)).trans p2,(y _ (by dsimp only;omega)).trans p3⟩ (λHS2=>?_);clear k K;refine kx0 (by kernel_rfl) ?_ _;dsimp only[kc]
   gi_wp2
   have Q:=HV.out;subst Q;have Q:(gO l s (d++[x])).1=m+u:=by rw[Y.out];show (gO l s d).1+_=_;rw[T.out,HU.out]
   have E2:∀j,(gO l s (d++[x])).2 j=if j=x.1 then m else (gO l s d).2 j:=λj=>by rw[Y.out];show (if j=x.1 then (gO l s d).1 else _)=_;rw[T.out]
   have k1:KeepsOthers W ((W.setCell ⟨w.heap.size,0,none⟩ (.int .i64 (m+u))).drew):=(KeepsOthers.setCell _ _ _).trans (KeepsOthers.drew _);have K:Below w.heap.size W ((W.setCell ⟨w.heap.size,0,none⟩ (.int .i64 (m+u))).drew):=((kqe _ W).setCell (p:=⟨w.heap.size,0,none⟩) (kqa _) _).drew;refine⟨(k1.trans (KeepsOthers.setCell _ _ _)).from _,K.setCell (p:=⟨b.heap.size+1,x.1,none⟩) (by dsimp only;omega) _,⟨?_,?_,?_,?_⟩,(N.trans (K.mono (kqa _))).setCell (p:=⟨b.heap.size+1,x.1,none⟩) (by dsimp only;omega) _⟩
   .rw[Q];exact Bx.far (bS2.out.set_ 0 _) (p:=⟨b.heap.size+1,x.1,none⟩) (by dsimp only;omega) _
   .exact Bx.far (bF2.out.far (p:=⟨w.heap.size,0,none⟩) (by dsimp only;omega) _) (p:=⟨b.heap.size+1,x.1,none⟩) (by dsimp only;omega) _
   .exact Bx.far (bO2.out.far (p:=⟨w.heap.size,0,none⟩) (by dsimp only;omega) _) (p:=⟨b.heap.size+1,x.1,none⟩) (by dsimp only;omega) _
   refine World.rowIs.congr (World.rowIs.set (w:=(W.setCell ⟨w.heap.size,0,none⟩ (.int .i64 (m+u))).drew) (bR2.out.setOther (a:=⟨w.heap.size,0,none⟩) (by dsimp only;omega) _) x.1 (.int .i64 m)) (λj hj=>?_);rw[E2];by_cases e:j=x.1
   .rw[if_pos e,if_pos e]
   rw[if_neg e,if_neg e]
  case done =>
   rintro D zs W hD rfl ⟨⟨M,L,B,C⟩,N⟩ k;obtain⟨o1,o2,o3⟩:=B.c1;have m:=(ED (l:=l) s (kqa l.length)).2;rw[kzb] at m;have j:(aQ l s).flatMap aV=(aQ l s).map (λv=>Value.int .i64 v):=by
    generalize aQ l s=ps
    induction ps with
    | nil=>rfl
    | cons a t p=>rw[kzz,p];rfl
   gi_wp2
   refine⟨by simp,.inl ⟨_,_,rfl,run_takeDeferred k,?_⟩⟩;refine⟨_,results_tmp2 rfl _ _ _,⟨_,rfl,rD (C.of_block (w':=W.putObj D _) (by simp only[World.putObj];rw[Array.getElem?_setIfInBounds_ne (by omega)])) (by omega) (by simp[maxLen];omega) ?_ ?_⟩,N.trans (belowK_b (w:=w) (kqa _) W D _ _ (by omega) k rfl rfl)⟩
   .rw[j,kzw,de]
   intro i p;rw[j,kxk,m i p,kqg (by rw[de];exact p)];simp
  case stop =>
   rintro D c d W _ _ h _;exact h.elim
 have o:=sr A l c l.length s (w.alloc (.cells #[.int .i64 s] 3)) rfl (by omega) ((HR.out.alloc (kqa _) _).more (by simp)) O;have hn1:(eX l s==0)=false:=by rw[kqc];exact E
 have hn2:(eX l s != 0)=true:=by rw[kqx];exact E
 have F:=y5 o;refine CallsIn.mono (R:=λe z=>e=.returned (.tuple #[.slice none 0 0,.int .i64 (eX l s)])/\Below w.heap.size w z) ?_ (λe z h=>⟨λh'=>absurd h' E,λ_=>h.1,h.2⟩);clear E o;generalize eX l s=r at *;refine callsIn_of_wp_marks func206 rfl trivial ?_ rfl;simp only[ntmps206,kkd,kq4,kxd,Nat.reduceAdd,Nat.reduceSub,kkq,kkr,kk9,kku,kz5,kzq]
 gi_wp2
 refine⟨trivial,(callsIn_wide.2 F.out).mono ?_⟩;rintro e b ⟨rfl,f⟩;rw[kqm] at f
 gi_wp2
 exact⟨_,results_tmp2 rfl _ _ _,rfl,az f⟩
theorem wF(A:Option Addr)(l:List Bk)(c n:Nat)(s:Int)(w:World)(d:l.length=n)(i:n<=4294967296)(j:RdB w w.heap.size A l)(k : -9223372036854775808<=s/\s<=9223372036854775807):
 Calls prog 206 #[.slice A n c,.int .i64 s] w λe a=>Az l s e a/\Below w.heap.size w a:=
 (callsIn_wide.1 (Dd A l c n s w d i j k)).mono λe a h=>by
  obtain⟨e,f,g⟩:=h
  refine⟨?_,g⟩
  by_cases b:eX l s=0
  .obtain ⟨v,rfl,a⟩:=e b
   exact sQ b d a
  .rw[f b]
   exact DD rfl b
def bq (x:Nat):List Value:=[.int .u8 (x:Int)]
theorem rh(x:Nat):(bq x).length=1:=rfl
def RdY (w:World) (B:Nat) (A:Option Addr) (l:List Nat):Prop:=Rd w B A (l.flatMap bq)
theorem RdY.at_{A:Option Addr}{l:List Nat}(h:RdY w B A l)(f:k<l.length):
 ∃b a,A=some ⟨b,a,none⟩/\b<B/\w.cell? ⟨b,a+k,none⟩=some (.int .u8 (l[k]:Int)):=by obtain⟨b,a,e,c,d⟩:=Rd.at_flat rh h (by omega) f;have:=d 0 (by omega);simp only[kjd,kxb] at this;exact⟨b,a,e,c,this⟩
theorem wY{l:List Nat}(d:k<l.length)(h:fM (l.take k)=true)(b:1<=l[k])(c:l[k]<=3):fM (l.take (k+1))=true:=by
 rw[kqi d];rw[eW] at h |-;intro x a;rw[kz1] at a;rcases a with a|a
 .exact h x a
 simp only[kq0,kzm,or_false] at a;subst a;exact⟨b,c⟩
theorem uT(A:Option Addr)(l:List Nat)(c n B:Nat)(w:World)(b:l.length=n)(hm:n<=9223372036854775807)(a:RdY w B A l):
 Calls prog 118 #[.slice A n c] w λe d=>e=.returned (.int .i64 (dj l))/\w=d:=by
 subst b;have p:=y5 a;clear a;by_cases a:8<l.length
 .have b:=y5 (tF a);go_enter func118,ntmps118;go_wp2;go_ret;exact⟨by rw[b.out];rfl,rfl⟩
 have d:l.length<=8:=(by omega);have j:Hid (fM l=false->dj l=8):=y5 λh=>lI d h;have o:Hid (fM l=true->dj l=0):=y5 λh=>jT d h;clear a;go_enter func118,ntmps118;go_wp2_with fail
 go_loop [10] (λi=>∃k:Nat,k<=l.length/\i=.int .i64 k/\Hid (fM (l.take k)=true)) (λi=>l.length-(intOf i).toNat)
 case atStart=>exact⟨0,kqv _,rfl,rfl⟩
 obtain⟨k,hk,rfl,i⟩:=hrel;by_cases a:k<l.length
 .obtain ⟨b,off,rfl,hb,q⟩:=p.out.at_ a;obtain⟨m,g⟩:=yq0 (λe f=>wY a i.out e f) (λh=>By a h);obtain⟨x,h⟩:=xq (l[k]);rw[h] at q m g;clear h;by_cases e:x<1
  .have E:=y5 (j.out (g.out (.inl e)));go_wp2;go_ret;exact⟨by rw[E.out];rfl,rfl⟩
  by_cases f:3<x
  .have E:=y5 (j.out (g.out (.inr f)));go_wp2;go_ret;exact⟨by rw[E.out];rfl,rfl⟩
  have h:1<=x:=(by omega);have r:x<=3:=(by omega);clear e f;go_wp2_with fail
  go_round
  case rel=>exact⟨k+1,by omega,by go_num,m.out h r⟩
  case measure=>simp[intOf];omega
 have E:=y5 (o.out (by have:=i.out;rwa [kza (by omega)] at this));go_wp2;go_ret;exact⟨by rw[E.out];rfl,rfl⟩
def kSz (l:List Nat):Nat:=if dj l=0 then bp l.length else 0
theorem uc(A:Option Addr)(l:List Nat)(c n B:Nat)(w:World)(b:l.length=n)(i:n<=9223372036854775807)(a:RdY w B A l):
 Calls prog 158 #[.slice A n c] w λe d=>e=.returned (.tuple #[.int .i64 (kSz l:Nat),.int .i64 (dj l)])/\w=d:=by
 have d:=y5 (uT A l c n B w b i a);clear a;by_cases a:dj l=0
 .have h:=(kq a).1;have f:=y5 (show ((kSz l:Nat):Int)=2+((n:Int)+1)/2*2 by simp only[kSz,a,if_true,bp,b];omega);rw[b] at h;rw[a] at d;have g:=y5 a;clear a b;go_enter func158,ntmps158;go_wp2_with fail;refine d.out.mono ?_;rintro e j ⟨rfl,rfl⟩;go_wp2;go_ret2;exact⟨by rw[f.out,g.out];rfl,rfl⟩
 have f:=y5 (show kSz l=0 by simp[kSz,a]);have hne:(dj l != 0)=true:=by rw[kqx];exact a
 clear a b;go_enter func158,ntmps158;go_wp2_with fail;refine d.out.mono ?_;rintro e j ⟨rfl,rfl⟩;go_wp2;go_ret2;exact⟨by rw[f.out];rfl,rfl⟩
def F8 (a b:Nat):Value:=.agg #[.int .u64 (a:Int),.int .u64 (b:Int)]
def kwV (l:List Nat):Value:=if dj l=0 then F8 (ko l) (jt (ko l)) else F8 0 0
def fw (l:List Nat) (k:Nat):Nat:=l.length+oE (l.take k) 4
theorem nd{fn:Func}{p q:Tmp}(h:fn.results=#[.cell p 157,.tmp q])(a:Array Value){W:World}{g:Nat}{v0 v1 u:Value}(f:Bx W g t #[v0,v1])(b:a.getD p undef=.pointer (some ⟨g,0,none⟩))(c:a.getD q undef=u):
 (results fn a).run prog W=.ok (.tuple #[.agg #[v0,v1],u]) W:=by obtain⟨d,e,-⟩:=f.c2;rw[kxy] at b c;simp[results,h,b,c,go_sem,d,e]
theorem fw_lt{l:List Nat}(h:l.length<=8)(a:fM l=true)(k:Nat):fw l k<4 ^ (4+k):=by
 have h1:=ta (l.take k) 4 (λx b=>((eW l).1 a x (kx3 b)).2);have h2:4 ^ (4+(l.take k).length)<=4 ^ (4+k):=kjs (by omega) (by rw[kq6];omega);have h4:(4:Nat) ^ 4=256:=(by decide);unfold fw;omega
theorem JH{l:List Nat}{x:Nat}(h:l.length<=8)(d:fM l=true)(a:k<l.length)(e:l[k]=x):
 bits BinOp.or .u64 (fw l k:Nat) (IntKind.u64.wrap ((x:Int)*2 ^ (8+2*k)))=((fw l (k+1):Nat):Int):=by
 have c:x<=3:=by rw[<-e];exact ((eW l).1 d l[k] (kqp a)).2
 have i:=fw_lt h d k;have b:(2:Nat) ^ (8+2*k)=4 ^ (4+k):=by rw[show 8+2*k=2*(4+k) by omega,Nat.pow_mul]
 have hp:(4:Nat) ^ (4+k)<=4 ^ 11:=kjs (by omega) (by omega);have h11:(4:Nat) ^ 11=4194304:=(by decide);have hb:x*2 ^ (8+2*k)<=3*4194304:=by rw[b];exact kzu (kx2 _ c) (by omega)
 have f:(x:Int)*2 ^ (8+2*k)=((x*2 ^ (8+2*k):Nat):Int):=(by simp);rw[f,kzi _ (by omega),u64_or_nat _ _ (by omega) (by omega),kw (by rw[b];exact i)];have g:fw l (k+1)=fw l k+x*4 ^ (4+k):=by unfold fw;rw[kqi a,nZ,e,kq6,kxo (by omega)];simp only[oE];omega
 rw[g,b]
theorem fw_end(l:List Nat):fw l l.length=ko l:=by unfold fw ko;rw[kzb]
theorem vR(A:Option Addr)(l:List Nat)(c n:Nat)(w:World)(a:l.length=n)(I:n<=9223372036854775807)(u:RdY w w.heap.size A l):
 Calls prog 175 #[.slice A n c] w λe b=>e=.returned (.tuple #[kwV l,.int .i64 (dj l)])/\Below w.heap.size w b:=by
 subst a;have H:=y5 u;have t:=Bx.new w 157 #[.int .u64 0,.int .u64 0];have D:=y5 (uT A l c l.length w.heap.size (w.alloc (.cells #[.int .u64 0,.int .u64 0] 157)) rfl I (u.alloc (kqa _) _));by_cases a:dj l=0
 .have B:=kq a;obtain⟨r,b⟩:=B;obtain⟨d,j,G⟩:=yq1 b (show kwV l=.agg #[.int .u64 (ko l:Nat),.int .u64 (jt (ko l):Nat)] by simp[kwV,a,F8]) a;rw[a] at D;have C:=y5 t;clear a b t u;go_enter func175,ntmps175;go_wp2_with fail;refine D.out.mono ?_;rintro e F ⟨rfl,rfl⟩;go_wp2_with fail
  go_loop [5,21] (λs i=>∃k:Nat,k<=l.length/\i=.int .i64 k/\s=.int .u64 (fw l k:Nat)) (λ_ i=>l.length-(intOf i).toNat)
  case atStart=>exact⟨0,kqv _,rfl,by simp[fw,oE]⟩
  obtain⟨k,hk,rfl,rfl⟩:=hrel;by_cases f:k<l.length
  .obtain ⟨b,i,rfl,m,a⟩:=H.out.at_ f;replace a:=(kzc w (.cells #[.int .u64 0,.int .u64 0] 157) ⟨b,i+k,none⟩ m).trans a;obtain⟨x,h⟩:=xq (l[k]);have hx3:x<=3:=by rw[<-h];exact ((eW l).1 d.out l[k] (kqp f)).2
   have g:=y5 (JH r d.out f h);obtain⟨q,p⟩:=xq (fw l k);rw[h] at a;rw[p] at g |-;clear h p;go_wp2_with fail
   go_round
   case rel=>exact⟨k+1,by omega,by go_num,by rw[g.out]⟩
   case measure=>simp[intOf];omega
  obtain rfl:k=l.length:=(by omega);have o:=He r d.out;have h:Hid (aR 14695981039346656037 [ko l]=jt (ko l)):=y5 rfl;rw[fw_end];obtain⟨q,p⟩:=xq (ko l);rw[p] at o j h |-;have E:(prog.info? 157).map (·.size)=some 2:=by kernel_rfl
  clear p;go_wp2_with fail;have g:=qr (w.alloc (.cells #[.int .u64 0,.int .u64 0] 157)) [.int .u64 (q:Int)] 53;refine (re _ [q] _ 1 _ rfl (by omega) (by simp only[kqm] at g |-;exact g) (by intro y b;simp at b;subst b;omega)).mono ?_;rintro e F ⟨rfl,b⟩;rw[kqm,kqm] at b;have m:=(((kqe _ _).alloc (kqa _) (.cells #[.int .u64 0,.int .u64 0] 157)).alloc (by simp) (.cells #[.int .u64 (q:Int)] 53)).trans (b.mono (by omega));have i:=(C.out.alloc (.cells #[.int .u64 (q:Int)] 53)).up b (by omega);obtain⟨s,x⟩:=yq0 i m;rw[h.out];obtain⟨z,B⟩:=xq (jt q);rw[B] at j |-;clear B i m b g;go_wp2_with ((with_reducible refine aj 157 (.tmp 2) _ ?_);refine ai rfl _ _ _ rfl w.heap.size 157 #[.int .u64 0,.int .u64 0] #[.int .u64 (q:Int),.int .u64 (z:Int)] (by rfl) (by rfl) s.out rfl E (by simp[Value.oneCell']) ?_;intro w3 g b;have m:=y5 g;have i:=y5 b;clear g b);exact kqq (v:=.tuple #[.agg #[.int .u64 (q:Int),.int .u64 (z:Int)],.int .i64 0]) (nd results175 _ m.out rfl rfl) rfl ⟨by rw[j.out,G.out],i.out.below x.out (kqa _)⟩
 have j:=y5 (show kwV l=.agg #[.int .u64 0,.int .u64 0] by simp[kwV,a,F8]);have hne:(dj l != 0)=true:=by rw[kqx];exact a
 have C:=y5 t;clear a t u;go_enter func175,ntmps175;go_wp2_with fail;refine D.out.mono ?_;rintro e F ⟨rfl,rfl⟩;go_wp2_with fail;exact kqq (v:=.tuple #[.agg #[.int .u64 0,.int .u64 0],.int .i64 (dj l)]) (nd results175 _ C.out rfl rfl) rfl ⟨by rw[j.out],(kqe _ _).alloc (kqa _) _⟩
def bB (a b:Nat):List Nat:=if b8 a b=true then cG a else []
def ff (a b:Nat):Int:=if b8 a b=true then 0 else 50
def Ff (a b:Nat) (e:Ending) (w':World):Prop:=∃A c,e=.returned (.tuple #[.slice A (bB a b).length c,.int .i64 (ff a b)])/\RdY w' w'.heap.size A (bB a b)/\(bB a b).length<=c
theorem mL(h:b8 a b=false):Ff a b (.returned (.tuple #[.slice none 0 0,.int .i64 50])) w':=by
 have c:bB a b=[]:=by simp[bB,h]
 have d:ff a b=50:=by simp[ff,h]
 exact⟨none,0,by rw[c,d];rfl,by rw[c];exact Rd.nil_,by rw[c];simp⟩
theorem zq(i:b8 a b=true)(h:w'.ownsRow H 5 1 v (cG a).length ((cG a).flatMap bq)):Ff a b (.returned (.tuple #[v,.int .i64 0])) w':=by
 have f:bB a b=cG a:=by simp[bB,i]
 have j:ff a b=0:=by simp[ff,i]
 have k:∃A c,v=.slice A (cG a).length c/\(cG a).length<=c:=by
  rcases h.2 with⟨rfl,e⟩|⟨g,cap,cur,rfl,_,_,d,_⟩
  .exact ⟨none,0,by rw[e],by omega⟩
  exact⟨_,_,rfl,d⟩
 obtain⟨A,c,rfl,d⟩:=k;exact⟨A,c,by rw[f,j],by rw[f];exact Rd.of_own h,by rw[f];exact d⟩
theorem kD(a b:Nat):b8 a b=((decide (a%256<=8)&&fM (cG a))&&(ko (cG a)==a&&jt a==b)):=rfl
theorem vh(a k:Nat)(d:a<18446744073709551616):bits BinOp.and .u64 ((a:Int)/2 ^ (8+2*k)) 3=((a/4 ^ (k+4)%4:Nat):Int):=by
 have b:(2:Nat) ^ (8+2*k)=4 ^ (k+4):=by rw[show 8+2*k=2*(k+4) by omega,Nat.pow_mul]
 have c:(a:Int)/2 ^ (8+2*k)=((a/4 ^ (k+4):Nat):Int):=by rw[<-b];simp
 have h:a/4 ^ (k+4)<18446744073709551616:=kjp (kkf _ _) d;rw[c];exact tI (k:=2) (m:=3) h (by decide) (by omega)
theorem pa(p q a b:Int)(W:World):(Op.equalIn 10000 157 (.agg #[.int .u64 p,.int .u64 q]) (.agg #[.int .u64 a,.int .u64 b])).run prog W=.ok (p==a&&q==b) W:=by have g:=underlying157;have h:=underlying53;have f:(Op.equalIn 10000 157 (.agg #[.int .u64 p,.int .u64 q]) (.agg #[.int .u64 a,.int .u64 b]))=(Op.equalIn (9999+1) 157 (.agg #[.int .u64 p,.int .u64 q]) (.agg #[.int .u64 a,.int .u64 b])):=rfl;have e:List.range' 0 2=[0,1]:=rfl;have e1:=λ(x y:Int)=>run_equalIn_int W 9998 53 .u64 .u64 x y h;rw[f];unfold Op.equalIn;simp[go_sem,run_underlying g,Sem.run_bind,e,List.forIn_cons];by_cases c:p=a<;>by_cases d:q=b<;>simp[c,d,go_sem]
theorem qs(a b:Nat)(w:World)(d:a<18446744073709551616)(f:b<18446744073709551616):
 Calls prog 117 #[.int .u64 (a:Int),.int .u64 (b:Int)] w λe c=>Ff a b e c/\Below w.heap.size w c:=by
 have y:=y5 (kD a b);have ha0:(0:Int)<=(a:Int):=(by omega);have M:=(um a d).1;obtain⟨j,t,C⟩:=yq1 (dp a) (λk h=>mI a k h) (λk=>vh a k d);have i:a%256<256:=kz3 _ (by omega);obtain⟨m,c⟩:=xq (a%256);rw[c] at M j t y i;by_cases l:8<m
 .have g:=y5 (show b8 a b=false by rw[y.out,show decide (m<=8)=false by rw[kqb];omega];rfl);clear c d f;go_enter func117,ntmps117;go_wp2;go_ret2;exact⟨mL g.out,kqe _ _⟩
 have z:m<=8:=(by omega);rw[show decide (m<=8)=true by rw[kqh];exact z] at y;have hx0:(0:Int)<=(m:Int):=(by omega);obtain⟨HA,g⟩:=yq0 d f;have d8:decide ((8:Int)<(m:Int))=false:=(by rw[kqb];omega);clear c d f l i;obtain⟨N,g,c,d,f⟩:=kzh j9;obtain⟨K,D,E,F⟩:=yq2 g c d f;clear g c d f;go_enter func117,ntmps117;go_wp2_with fail;go_loopw [7,16] (λv i wr=>∃k:Nat,k<=m/\i=.int .u64 k/\wr.ownsRow w.heap.size 5 1 v k (((cG a).take k).flatMap bq)/\Below w.heap.size w wr) (λ_ i _=>m-(intOf i).toNat)
 case atStart=>exact⟨0,kqv _,rfl,kq3 _ _ _ _,kqe _ _⟩
 obtain⟨k,hk,rfl,c,r⟩:=hrel;have A:=r.size;by_cases v:k<m
 .have g:=C.out k;have f:=t.out k v;obtain⟨x,i⟩:=xq (a/4 ^ (k+4)%4);have hx3:x<4:=by rw[<-i];exact kz3 _ (by omega)
  rw[i] at g f;have d:=y5 (show ((cG a).take (k+1)).flatMap bq=((cG a).take k).flatMap bq++[.int .u8 (x:Int)] by
   have l:k<(cG a).length:=by rw[j.out];exact v
   rw[kqi l,ce];rw[kqg l] at f;rw[Option.some.inj f];rfl)
  have hxi:(x:Int)<4:=(by omega);have hx00:(0:Int)<=(x:Int):=(by omega);have hki:(k:Int)<(m:Int):=(by omega);clear i f;go_wp2_with (at_builtin;refine kq7 _ rfl _ _ 113 rfl w.heap.size 5 N _ 1 1 underlying113 K.out D.out E.out F.out rfl (by decide) _ _ _ rfl (c.alloc _) ⟨_,0,none⟩ 1 1 [.int .u8 (x:Int)] rfl rfl (bc _ _ _) (by simp[Value.oneCell']) (by unfold maxLen;omega) (by omega) (cr r.size) ?_;intro v1 B i l _;have f:=ay r r.size c l);go_roundw;exact⟨k+1,by omega,by go_num,by rw[d.out];exact i,f⟩;simp[intOf];omega
 obtain rfl:k=m:=(by omega);rw[kza (by rw[j.out];exact kqa _)] at c;obtain⟨J,L,rfl⟩:=aw c;have s:=y5 (vR J (cG a) L k wr j.out (by omega) (Rd.of_own c));have g:(cG a).length<=8:=by rw[j.out];exact z
 cases l:fM (cG a)
 .obtain⟨n,u⟩:=yq0 (lI g l) (show b8 a b=false by rw[y.out,l];rfl);have x:=y5 (show kwV (cG a)=.agg #[.int .u64 0,.int .u64 0] by simp[kwV,n.out,F8]);rw[n.out,x.out] at s;clear l g c;go_wp2_with fail;refine s.out.mono ?_;rintro e B ⟨rfl,f⟩;have d:=r.trans (f.mono A);go_wp2;go_ret2;exact⟨mL u.out,d.alloc d.size _⟩
 have n:=y5 (jT g l);have x:=y5 (show kwV (cG a)=.agg #[.int .u64 (ko (cG a):Nat),.int .u64 (jt (ko (cG a)):Nat)] by simp[kwV,n.out,F8]);have o:=y5 (show b8 a b=(ko (cG a)==a&&jt (ko (cG a))==b) by
  rw[y.out,l];by_cases h:ko (cG a)=a
  .rw[h];simp
  rw[show (ko (cG a)==a)=false by rw[kqc];exact h];simp only[kxh,kx6])
 rw[n.out,x.out] at s;obtain⟨p,G⟩:=xq (ko (cG a));obtain⟨q,I⟩:=xq (jt p);rw[G,I] at s o;clear l g G I;by_cases g:p=a
 .by_cases n:q=b
  .have x:=y5 (show b8 a b=true by rw[o.out,g,n];simp);have l:=pa p q a b;rw[show ((p:Int)==(a:Int))=true by rw[kqw];omega,show ((q:Int)==(b:Int))=true by rw[kqw];omega,Bool.and_self] at l;clear g n;go_wp2_with fail;refine s.out.mono ?_;rintro e B ⟨rfl,f⟩;have d:=r.trans (f.mono A);have i:=ag c f (kqa _);go_wp2;go_ret2;refine⟨zq x.out (H:=w.heap.size) ?_,d.alloc d.size _⟩;rw[j.out];exact i.alloc _
  have u:=y5 (show b8 a b=false by rw[o.out,show (q==b)=false by rw[kqc];exact n,kx6]);have l:=pa p q a b;rw[show ((q:Int)==(b:Int))=false by rw[kqc];omega,kx6] at l;clear g n c;go_wp2_with fail;refine s.out.mono ?_;rintro e B ⟨rfl,f⟩;have d:=r.trans (f.mono A);go_wp2;go_ret2;exact⟨mL u.out,d.alloc d.size _⟩
 have u:=y5 (show b8 a b=false by rw[o.out,show (p==a)=false by rw[kqc];exact g,kxh]);have l:=pa p q a b;rw[show ((p:Int)==(a:Int))=false by rw[kqc];omega,kxh] at l;clear g c;go_wp2_with fail;refine s.out.mono ?_;rintro e B ⟨rfl,f⟩;have d:=r.trans (f.mono A);go_wp2;go_ret2;exact⟨mL u.out,d.alloc d.size _⟩
def FlRes (a b:Nat) (e:Ending) (w':World):Prop:=∃A c,e=.returned (.tuple #[.slice A (bB a b).length c,.bool (b8 a b)])/\RdY w' w'.heap.size A (bB a b)/\(bB a b).length<=c
theorem mH(a b:Nat):(ff a b==0)=b8 a b:=by unfold ff;cases b8 a b<;>simp
theorem sW(A:Option Addr)(G:List Nat)(c n t:Nat)(w:World)(b:G.length=n)(hm:n<=1000000)(h2:256<=n)(r:t<8)(i:RdW w w.heap.size A G)(g:∀x∈G,x<2^64):
 Calls prog 110 #[.slice A n c,.int .i64 (t:Int)] w λe a=>FlRes (wd G (96+2*t)) (wd G (96+2*t+1)) e a/\Below w.heap.size w a:=by
 subst b;have k:=fH g (96+2*t);have q:=fH g (96+2*t+1);obtain⟨h,j⟩:=yq0 (λW=>qs (wd G (96+2*t)) (wd G (96+2*t+1)) W k q) (mH (wd G (96+2*t)) (wd G (96+2*t+1)));obtain⟨b,a,rfl,o,l⟩:=RdW.at_ i (show 96+2*t<G.length by omega);obtain⟨b',off',s,-,m⟩:=RdW.at_ i (show 96+2*t+1<G.length by omega);cases s;rw[<-bY] at l m;obtain⟨x,d⟩:=xq (wd G (96+2*t));obtain⟨y,f⟩:=xq (wd G (96+2*t+1));rw[d] at l h j |-;rw[f] at m h j |-;have t0:(0:Int)<=(t:Int):=(by omega);have t8:(t:Int)<8:=(by omega);have w1:IntKind.i64.wrap (2*(t:Int))=2*(t:Int):=kqo _ (by omega);have w2:IntKind.i64.wrap (96+2*(t:Int))=96+2*(t:Int):=kqo _ (by omega);have w3:IntKind.i64.wrap (96+2*(t:Int)+1)=96+2*(t:Int)+1:=kqo _ (by omega);have i1:(0:Int)<=96+2*(t:Int):=(by omega);have i2:(96:Int)+2*(t:Int)<(G.length:Int):=(by omega);have i3:(0:Int)<=96+2*(t:Int)+1:=(by omega);have i4:(96:Int)+2*(t:Int)+1<(G.length:Int):=(by omega);have n1:((96:Int)+2*(t:Int)).toNat=96+2*t:=(by omega);have n2:((96:Int)+2*(t:Int)+1).toNat=96+2*t+1:=(by omega);clear i k q d f g r;go_enter func110,ntmps110;go_wp2_with fail
 go_region_held3 (λX:World=>X.cell? ⟨b,a+(96+2*t),none⟩=some (.int .u64 (x:Int))/\X.cell? ⟨b,a+(96+2*t+1),none⟩=some (.int .u64 (y:Int))) (go_keep)
  (first | (go_at_call 117;refine (h.out _).mono ?_;rintro e w5 ⟨⟨q,r,rfl,g,f⟩,d⟩;have m0:=(d.cell (p:=⟨b,a+(96+2*t),none⟩) o).trans l;have m1:=(d.cell (p:=⟨b,a+(96+2*t+1),none⟩) o).trans m;have k:=y5 g;have i:=y5 f;clear g f))
 go_wp2;go_ret2;exact⟨⟨q,r,by rw[j.out];rfl,k.out,i.out⟩,(kqe _ _).drew.trans d⟩
def MhRes (G:List Nat) (e:Ending) (w':World):Prop:=∃A c,e=.returned (.tuple #[.slice A (aa G).length c,.int .i64 (ao G)])/\RdB w' w'.heap.size A (aa G)/\(aa G).length<=c
theorem mF(b:ao G=r)(a:r≠0):MhRes G (.returned (.tuple #[.slice none 0 0,.int .i64 r])) w':=by
 subst b;have:aa G=[]:=by simp[aa,a]
 exact⟨none,0,by rw[this];rfl,by rw[this];exact Rd.nil_,by rw[this];simp⟩
theorem iQ(h:am (G.length:Int)=true):eU G.length 128=false:=by have:=(ae _).1 h;simp only[eU,kzo,kqb,kqt];omega
theorem v6(h:cp G 128=r)(c:r≠0):ao G=r:=by
 subst h;cases a:am (G.length:Int) with
 | false=>rw[nV a,f8 a]
 | true =>
  cases b:blocks G 128 with
  | none=>rw[zb a b,ft a (iQ a) b]
  | some l=>exact absurd (cC a (iQ a) b).1 c
theorem CX(h:cp G 128=0):am (G.length:Int)=true/\blocks G 128=some (aS G 128):=by
 cases a:am (G.length:Int) with
 | false=>rw[f8 a] at h;cases h
 | true =>
  cases b:blocks G 128 with
  | none=>rw[ft a (iQ a) b] at h;cases h
  | some l=>rw[(cC a (iQ a) b).2];exact⟨rfl,rfl⟩
theorem vD(b:k<l.length)(h:(l.take k).all (dQ G)=true)(a:dQ G l[k]=true):(l.take (k+1)).all (dQ G)=true:=by rw[kqi b,List.all_append,h];simp[a]
theorem zT(c:k<l.length)(a:dQ G l[k]=false):l.all (dQ G)=false:=by
 cases b:l.all (dQ G) with
 | false=>rfl
 | true=>rw[kzt] at b;rw[b _ (kqp c)] at a;cases a
theorem AY(h:b8 a b=true):(bB a b).length=a%256:=by simp[bB,h,dp]
theorem iC{b:Bk}(a:b.kind=1):dQ G b=(b8 (wd G (tyA b)) (wd G (tyA b+1))&&b.size==((bp (bB (wd G (tyA b)) (wd G (tyA b+1))).length:Nat):Int)):=by
 unfold dQ dm;rw[a];cases c:b8 (wd G (tyA b)) (wd G (tyA b+1)) with
 | false=>rfl
 | true=>rw[AY c];rfl
theorem eY{b:Bk}(a:b.kind≠1):dQ G b=true:=by unfold dQ;rw[show (b.kind != 1)=true by rw[kqx];exact a];rfl
theorem gK(h:blocks G i=some l)(d:i%2=0)(f:k<l.length)(c:l[k].kind=1):0<=l[k].typ/\l[k].typ<8:=by obtain⟨a,e,-,-,-,b,-⟩:=bN _ _ h d k f;have h7:=(bC _).1 (gl b);have e1:(bkAt G a).kind=(aq (wd G a)).kind:=rfl;have e2:(bkAt G a).typ=(aq (wd G a)).typ:=rfl;rw[e] at c |-;omega
theorem dA(G:List Nat)(h:am (G.length:Int)=true):256<=G.length/\G.length<=2048/\G.length%8=0:=by have:=(ae _).1 h;omega
theorem GO(A:Option Addr)(G:List Nat)(c n:Nat)(w:World)(d:G.length=n)(V:n<=9223372036854775807)(f:RdW w w.heap.size A G)(a:∀x∈G,x<2^64):
 Calls prog 62 #[.slice A n c] w λe b=>MhRes G e b/\Below w.heap.size w b:=by
 subst d;obtain⟨HR,HO,S⟩:=yq1 f a (ml A G c G.length 128 w rfl V f a);clear f a;cases a:am (G.length:Int)
 .obtain⟨i,b⟩:=yq0 (bQ a) (nV a);clear a;go_enter func62,ntmps62;go_wp2_with fail;refine (aJ A G.length c w V).mono ?_;rintro e P ⟨rfl,rfl⟩;rw[i.out];go_wp2;go_ret2;exact⟨mF b.out (by omega),kqe _ _⟩
 have i:=y5 (aM a);obtain⟨U,D,b⟩:=dA G a;have HS:=y5 a;clear a b;go_enter func62,ntmps62;go_wp2_with fail;refine (aJ A G.length c w V).mono ?_;rintro e P ⟨rfl,rfl⟩;rw[i.out];go_wp2_with fail;refine S.out.mono ?_;rintro e P ⟨⟨A1,c1,rfl,g,b⟩,d⟩;have o:=d.size;have L:=iP G 128;have a:Hid (cp G 128=0->am (G.length:Int)=true/\blocks G 128=some (aS G 128)):=y5 CX;have z:Hid (∀r,cp G 128=r->r≠0->ao G=r):=y5 (λ_ h j=>v6 h j);obtain⟨l,j⟩:=xq (aS G 128);rw[j] at g b L a |-;obtain⟨I,Q⟩:=yq0 g b;obtain⟨r,f⟩:=xq (cp G 128);have R:=y5 f;rw[f] at a |-;clear f g b j;by_cases j:r=0
 .subst j;have y:=y5 (a.out rfl).2;clear a z;go_wp2_with fail;go_loopw [26] (λi wr=>∃k:Nat,k<=l.length/\i=.int .i64 k/\Hid ((l.take k).all (dQ G)=true)/\Below P.heap.size P wr) (λi _=>l.length-(intOf i).toNat)
  case atStart=>exact⟨0,kqv _,rfl,rfl,kqe _ _⟩
  obtain⟨k,hk,rfl,F,C⟩:=hrel;have O:=C.size;by_cases q:k<l.length
  .obtain ⟨b,off,rfl,hbw,q0,q1,q2,q3,q4,q5⟩:=RdB.at_ (I.out.below C) q;obtain⟨p,B,v⟩:=yq1 (λh=>gK y.out (by omega) q h) (λh=>vD q F.out h) (λh=>sB HS.out y.out (zT q h));obtain⟨x,g⟩:=xq (l[k]);rw[g] at q0 q1 q2 q3 q4 q5 p B v;obtain⟨i,H⟩:=yq0 (λh=>iC (G:=G) (b:=x) h) (λh=>eY (G:=G) (b:=x) h);have f:tyA x=96+2*x.typ.toNat:=rfl;rw[f] at i;obtain⟨Z,E,xk,xt,xm,xn⟩:=x;dsimp only at q0 q1 q2 q3 q4 q5 p i;have hlm:(k:Int)<(l.length:Int):=(by omega);clear g f;have u:=Bx.new wr 55 #[.int .i64 Z,.int .i64 E,.int .i64 xk,.int .i64 xt,.bool xm,.int .u64 (xn:Int)];by_cases f:xk=1
   .obtain ⟨t0,t8⟩:=p.out f;obtain⟨t,rfl⟩:=kqz t0;have s:=y5 (i.out f);simp only[kqf] at s;subst f;have HC:=y5 (λW (h:RdW W W.heap.size A G)=>sW A G c G.length t W rfl (by omega) U (by omega) h HO.out);have hz1w:=o;have T:=y5 ((((HR.out.up d o).up C O).alloc (kqa _) (.cells #[.int .i64 Z,.int .i64 E,.int .i64 1,.int .i64 (t:Int),.bool xm,.int .u64 (xn:Int)] 55)).more (B':=(wr.alloc (.cells #[.int .i64 Z,.int .i64 E,.int .i64 1,.int .i64 (t:Int),.bool xm,.int .u64 (xn:Int)] 55)).heap.size) (by simp));obtain⟨J,g⟩:=xq (wd G (96+2*t));obtain⟨N,h⟩:=xq (wd G (96+2*t+1));rw[g,h] at HC s;clear u g h i H p;go_wp2_with fail;refine (HC.out _ T.out).mono ?_;rintro e w2 ⟨⟨A2,c2,rfl,M,K⟩,g⟩;rw[kqm] at g;have m:=Bx.of_new g;have D:=C.trans ((az g).mono O);obtain⟨c0,c1',c2',c3,c4,c5,W,cz⟩:=m.c6;have h:=y5 D;clear M K m g D W;obtain⟨Y,K⟩:=xq (b8 J N);obtain⟨m,g⟩:=xq ((bB J N).length);have hm8:m<=255:=by
     rw[<-g];unfold bB;split
     .rw[dp];have:=kz3 J (show 0<256 by omega);omega
     simp
    rw[K,g] at s |-;clear K g;cases Y
    .have K:=y5 (v.out (by rw[s.out];rfl));go_wp2;go_ret2;exact⟨mF K.out (by omega),d.trans (h.out.mono o)⟩
    rw[kzx] at s;have X:((bp m:Nat):Int)=((m:Int)+3)/2*2:=by unfold bp;omega
    rw[X] at s;by_cases g:E=((m:Int)+3)/2*2
    .have W:(E != ((m:Int)+3)/2*2)=false:=by rw[kqt];exact g
     have M:=y5 (B.out (by rw[s.out,kqw];exact g));clear g;go_wp2;go_roundw;exact⟨k+1,by omega,by go_num,M.out,h.out⟩;simp[intOf];omega
    have W:(E != ((m:Int)+3)/2*2)=true:=by rw[kqx];exact g
    have K:=y5 (v.out (by rw[s.out,kqc];exact g));clear g;go_wp2;go_ret2;exact⟨mF K.out (by omega),d.trans (h.out.mono o)⟩
   have hk2:(xk != 1)=true:=by rw[kqx];exact f
   have M:=y5 (B.out (H.out f));clear f u;go_wp2;go_roundw;exact⟨k+1,by omega,by go_num,M.out,C.alloc O _⟩;simp[intOf];omega
  have b:=y5 (gI HS.out y.out (by have:=F.out;rwa [kza (by omega)] at this));go_wp2;go_ret2;exact⟨⟨A1,c1,by rw[b.out.1,b.out.2];rfl,by rw[b.out.2];exact I.out.up C O,by rw[b.out.2];exact Q.out⟩,d.trans (C.mono o)⟩
 have hn1:(r != 0)=true:=by rw[kqx];exact j
 obtain⟨e,b⟩:=yq0 (z.out r R.out j) j;clear j a z;go_wp2;go_ret2;exact⟨mF e.out b.out,d⟩
theorem mN(A:Option Addr)(G:List Nat)(c n:Nat)(w:World)(b:G.length=n)(g:n<=9223372036854775807)(a:RdW w w.heap.size A G)(d:∀x∈G,x<2^64):
 Calls prog 162 #[.slice A n c] w λe f=>e=.returned (.int .i64 (ao G))/\Below w.heap.size w f:=by have f:=y5 (GO A G c n w b g a d);clear a d b;obtain⟨r,a⟩:=xq (ao G);have b:=y5 a;rw[a];clear a;go_enter func162,ntmps162;go_wp2_with fail;refine f.out.mono ?_;rintro e w1 ⟨⟨A1,c1,rfl,-,-⟩,a⟩;go_wp2;go_ret;exact⟨by rw[<-b.out];rfl,a⟩
theorem sE(a:k<l.length):fC (l.take (k+1))=fC (l.take k)++(if l[k].mark=true then [l[k].at_] else []):=by rw[kqi a];unfold fC;rw[kxa,kjf];cases h:l[k].mark<;>simp[h]
theorem FQ(l:List Bk):(fC l).length<=l.length:=by unfold fC;rw[kzw];exact kxz _ _
theorem dI(G:List Nat):(aa G).length<=1024:=by
 unfold aa;split
 .rename_i h;obtain⟨b,l,a,-⟩:=ax h;have hb:=(ae _).1 b;have:=(bv (by omega) _ _ a (by omega) (by omega) (by omega)).1;rw[a];simp only[kq9];omega
 simp
theorem kI{e:TypeId}{sz:Nat}(h:w'.ownsRow H e sz v n xs):∃A c,v=.slice A n c/\n<=c/\Rd w' w'.heap.size A xs:=by
 have b:∃A c,v=.slice A n c/\n<=c:=by
  rcases h.2 with⟨rfl,hnil⟩|⟨g,cap,cur,rfl,_,_,a,_⟩
  .have h0:n=0\/0<n:=(by omega);exact⟨none,0,by
    have:=aw h;obtain⟨A,c,e⟩:=this;injection e with _ e2 _;rw[<-e2],by
    have:=aw h;obtain⟨A,c,e⟩:=this;injection e with _ e2 _;omega⟩
  exact⟨_,_,rfl,a⟩
 obtain⟨A,c,rfl,a⟩:=b;exact⟨A,c,rfl,a,Rd.of_own h⟩
theorem vq(G:List Nat)(a xs e:Int)(t:Nat)(c:Bool)(d:Nat):dm G ⟨a,xs,e,(t:Int),c,d⟩=(b8 (wd G (96+2*t)) (wd G (96+2*t+1))&&xs==((bp (bB (wd G (96+2*t)) (wd G (96+2*t+1))).length:Nat):Int)):=by have h:=iC (G:=G) (b:=⟨a,xs,1,(t:Int),c,d⟩) rfl;unfold dQ at h;exact h
theorem nC(a b:Nat):dj (bB a b)=0:=by
 unfold bB;split
 .rename_i h;unfold b8 at h;simp only[kqs,kze] at h;exact jT (by rw[dp];exact h.1.1) h.1.2
 rfl
theorem ke(a b:Nat):(bB a b).length<=8:=(kq (nC a b)).1
theorem Bo(A:Option Addr)(G:List Nat)(c n t:Nat)(i xs j:Int)(k:Bool)(l:Nat)(w:World)(a:G.length=n)(hm:n<=1000000)(h2:256<=n)(H:t<8)(D:RdW w w.heap.size A G)(C:∀x∈G,x<2^64):
 Calls prog 216 #[.slice A n c,.agg #[.int .i64 i,.int .i64 xs,.int .i64 j,.int .i64 (t:Int),.bool k,.int .u64 (l:Int)]] w λe b=>e=.returned (.bool (dm G ⟨i,xs,j,(t:Int),k,l⟩))/\Below w.heap.size w b:=by
 subst a;have E:=fH C (96+2*t);have F:=fH C (96+2*t+1);obtain⟨a,N,M⟩:=yq1 (vq G i xs j t k l) (λW=>qs (wd G (96+2*t)) (wd G (96+2*t+1)) W E F) (mH (wd G (96+2*t)) (wd G (96+2*t+1)));have B:=ke (wd G (96+2*t)) (wd G (96+2*t+1));have g:=y5 (nC (wd G (96+2*t)) (wd G (96+2*t+1)));obtain⟨b,d,rfl,S,u⟩:=RdW.at_ D (show 96+2*t<G.length by omega);obtain⟨b',off',V,-,v⟩:=RdW.at_ D (show 96+2*t+1<G.length by omega);cases V;rw[<-bY] at u v;obtain⟨x,o⟩:=xq (wd G (96+2*t));obtain⟨y,r⟩:=xq (wd G (96+2*t+1));obtain⟨q,h⟩:∃q,dm G ⟨i,xs,j,(t:Int),k,l⟩=q:=⟨_,rfl⟩;rw[o] at u N M a g B;rw[r] at v N M a g B;rw[h] at a |-;have t0:(0:Int)<=(t:Int):=(by omega);have t8:(t:Int)<8:=(by omega);have w1:IntKind.i64.wrap (2*(t:Int))=2*(t:Int):=kqo _ (by omega);have w2:IntKind.i64.wrap (96+2*(t:Int))=96+2*(t:Int):=kqo _ (by omega);have w3:IntKind.i64.wrap (96+2*(t:Int)+1)=96+2*(t:Int)+1:=kqo _ (by omega);have i1:(0:Int)<=96+2*(t:Int):=(by omega);have i2:(96:Int)+2*(t:Int)<(G.length:Int):=(by omega);have i3:(0:Int)<=96+2*(t:Int)+1:=(by omega);have i4:(96:Int)+2*(t:Int)+1<(G.length:Int):=(by omega);have n1:((96:Int)+2*(t:Int)).toNat=96+2*t:=(by omega);have n2:((96:Int)+2*(t:Int)+1).toNat=96+2*t+1:=(by omega);obtain⟨R,s⟩:∃R,R=#[Value.int .i64 i,.int .i64 xs,.int .i64 j,.int .i64 (t:Int),.bool k,.int .u64 (l:Int)]:=⟨_,rfl⟩;have z:=Bx.new w 55 #[.int .i64 i,.int .i64 xs,.int .i64 j,.int .i64 (t:Int),.bool k,.int .u64 (l:Int)];have f:=(kqe w.heap.size w).alloc (kqa _) (.cells #[.int .i64 i,.int .i64 xs,.int .i64 j,.int .i64 (t:Int),.bool k,.int .u64 (l:Int)] 55);replace u:=(f.cell (p:=⟨b,d+(96+2*t),none⟩) S).trans u;replace v:=(f.cell (p:=⟨b,d+(96+2*t+1),none⟩) S).trans v;have m:(w.alloc (.cells #[.int .i64 i,.int .i64 xs,.int .i64 j,.int .i64 (t:Int),.bool k,.int .u64 (l:Int)] 55)).heap.size=w.heap.size+1:=(by simp);clear D E F o r C H h s;go_enter func216,ntmps216;go_wp2_with fail;obtain⟨s,h⟩:∃s,w.alloc (.cells #[.int .i64 i,.int .i64 xs,.int .i64 j,.int .i64 (t:Int),.bool k,.int .u64 (l:Int)] 55)=s:=⟨_,rfl⟩;rw[h] at u v z f m |-;clear h;have Q:s.cell? ⟨w.heap.size,3,none⟩=some (.int .i64 (t:Int)):=z.cell 3;have F:b<s.heap.size:=(by omega);have H:w.heap.size<s.heap.size:=(by omega);obtain⟨U,E⟩:=yq0 z f;clear z f m
 go_region_held3 (λX:World=>X.cell? ⟨b,d+(96+2*t),none⟩=some (.int .u64 (x:Int))/\X.cell? ⟨b,d+(96+2*t+1),none⟩=some (.int .u64 (y:Int))/\X.cell? ⟨w.heap.size,3,none⟩=some (.int .i64 (t:Int))) (go_keep)
  (first | (go_at_call 117;refine (N.out _).mono ?_;rintro e P ⟨⟨z,J,rfl,h,r⟩,f⟩;have W:=(f.cell (p:=⟨b,d+(96+2*t),none⟩) F).trans u;have X:=(f.cell (p:=⟨b,d+(96+2*t+1),none⟩) F).trans v;have Y:=(f.cell (p:=⟨w.heap.size,3,none⟩) H).trans Q;have m:=y5 h;have o:=y5 f;clear h r))
 have C:=uc z (bB x y) J (bB x y).length P.heap.size P rfl (by omega) m.out;have I:kSz (bB x y)=bp (bB x y).length:=by simp[kSz,g.out]
 rw[g.out,I] at C;have h:=y5 C;have K:bp (bB x y).length<=10:=by unfold bp;omega
 have c1x:P.cell? ⟨w.heap.size,1,none⟩=some (.int .i64 xs):=(o.out.cell (p:=⟨w.heap.size,1,none⟩) H).trans (U.out.cell 1);obtain⟨m,J⟩:=xq ((bB x y).length);rw[J] at a h B K |-;obtain⟨z,T⟩:=xq (bp m);rw[T] at h a K;have f:Hid (ff x y=if b8 x y=true then 0 else 50):=y5 rfl;obtain⟨r,D⟩:=xq (ff x y);obtain⟨O,L⟩:=xq (b8 x y);rw[D] at f M |-;rw[L] at f a M;clear D L C I J T W X Y u v Q;cases O
 .obtain rfl:r=50:=f.out;go_wp2_with fail;refine h.out.mono ?_;rintro e u ⟨rfl,rfl⟩;go_wp2;go_ret;exact⟨by rw[a.out];rfl,E.out.trans ((kqe _ _).drew.trans (o.out.mono (by show _<=s.heap.size;omega)))⟩
 obtain rfl:r=0:=f.out;rw[kzx] at a;go_wp2_with fail;refine h.out.mono ?_;rintro e u ⟨rfl,rfl⟩;go_wp2;go_ret;exact⟨by rw[a.out];rfl,E.out.trans ((kqe _ _).drew.trans (o.out.mono (by show _<=s.heap.size;omega)))⟩
theorem bE:(prog.info? 89).map (λi=>(i.zero,i.size,i.bytes))=some (some (.agg #[.int .i64 0,.int .u64 0]),2,16):=by kernel_rfl
def aI (G:List Nat):List En:=if ao G=0 then aZ (aa G) 128 else []
theorem gw(h:ao G=0):cp G 128=0/\aS G 128=aa G/\eX (aa G) 128=0/\blocks G 128=some (aa G):=by obtain⟨a,l,b,h3,c⟩:=ax h;obtain⟨d,e⟩:=cC a (iQ a) (l:=l) b;have hb:=(ae _).1 a;refine⟨d,by rw[e,c],?_,by rw[b,c]⟩;rw[c];exact jP (i:=128) (by omega) b (by omega) (by omega) (by omega) (s:=128) (by omega) (by omega) (by omega)
theorem pE(a:k<l.length)(s:Int):aZ (l.take (k+1)) s=aZ (l.take k) s++(if l[k].kind=1/\l[k].next≠bK l[k] (aN (l.take k) s) then [⟨l[k].at_+1,bK l[k] (aN (l.take k) s)⟩] else []):=by rw[kqi a,rx];simp[aZ]
theorem kW(l:List Bk):∀s,(aZ l s).length<=l.length:=by
 induction l with
 | nil=>intro s;exact kqa _
 | cons b l a =>intro s;have:=a (fD b s);simp only[aZ,kqu,kq4];split<;>simp<;>omega
theorem wg(h:eX l s=0)(a:k<l.length):∃b:k<(jR l s).length,(jR l s)[k]=((bK l[k] (aN (l.take k) s):Nat):Int)/\bK l[k] (aN (l.take k) s)<=2048:=by
 have e:jR l s=aQ l s:=by simp[jR,h]
 have f:k<(jR l s).length:=by rw[e,de];exact a
 refine⟨f,?_,?_⟩
 .have:=kz (l:=l) (s:=s) a;rw[bG l k a,<-e,kqg f] at this;rw[Option.some.inj this];obtain⟨c,b,d,_⟩:=dx h;have g:=iw c (kjn a) b d;unfold bK;split<;>omega
 obtain⟨c,b,d,_⟩:=dx h;have g:=iw c (kjn a) b d;unfold bK;split<;>omega
theorem vA(h:eX l s=0)(a:k<l.length):128<=l[k].at_/\l[k].at_<=2048/\2<=l[k].size/\l[k].size<=2048:=by obtain⟨b,_⟩:=dx h;have:=(fd _).1 (eF (dE b).2 a).1;rw[bG l k a] at this;omega
theorem tX(A:Option Addr)(G:List Nat)(c n:Nat)(w:World)(a:G.length=n)(hm:n<=9223372036854775807)(D:RdW w w.heap.size A G)(b:∀x∈G,x<2^64):
 Calls prog 143 #[.slice A n c] w λe d=>ey w.heap.size (ao G) (aI G) e d/\Below w.heap.size w d:=by
 obtain⟨P,Q,HR⟩:=yq1 (mN A G c n w a hm D b) (λW (h:RdW W W.heap.size A G)=>ml A G c n 128 W a hm h b) D;have t:Hid (ao G=0->cp G 128=0/\aS G 128=aa G/\eX (aa G) 128=0/\blocks G 128=some (aa G)):=y5 gw;have M:=dI G;clear D b a;by_cases s:ao G=0
 .obtain ⟨b,d,a,g⟩:=t.out s;obtain⟨I,U⟩:=yq0 (show aI G=aZ (aa G) 128 by simp[aI,s]) s;rw[s] at P;unfold qV at Q;rw[b,d] at Q;obtain⟨l,f⟩:=xq (aa G);rw[f] at Q M I a;obtain⟨r,u⟩:=yq0 a (λ(T:Option Addr) (c2:Nat) (W:World) (h:RdB W W.heap.size T l)=>wF T l c2 l.length 128 W rfl (by omega) h (by omega));unfold Az at u;rw[a] at u;clear s b d a g f t;obtain⟨i0,b,a,j,q⟩:=kzh bE;obtain⟨HI,V,W,X⟩:=yq2 b a j q;clear b a j q;go_enter func143,ntmps143;go_wp2_with fail;refine P.out.mono ?_;rintro e w1 ⟨rfl,g⟩;have j:=g.size;go_wp2_with fail;refine (Q.out _ (HR.out.up g j)).mono ?_;rintro e w2 ⟨⟨A1,c1,rfl,b,-⟩,z⟩;have J:=g.trans (z.mono j);have q:=J.size;have a:=y5 b;clear b;go_wp2_with fail;refine (u.out A1 c1 _ a.out).mono ?_;rintro e R ⟨⟨T,c2,rfl,b,-⟩,B⟩;have C:=J.trans (B.mono q);have Ka:=C.size;have H:=y5 b;have F:=yq9 a B;clear b a;obtain⟨pl,a⟩:=xq (jR l 128);have HPE:=y5 a;rw[a] at H |-;have b:pl.length=l.length:=by rw[<-a];simp[jR,r.out,de]
  have E:=y5 (λk (hk:k<l.length)=>wg r.out hk);rw[a] at E;have HPL2:=y5 b;rw[b];clear a b;go_wp2_with fail;go_loopw [9,30] (λv i wr=>∃k:Nat,k<=l.length/\i=.int .i64 k/\wr.ownsRow R.heap.size 89 2 v (aZ (l.take k) 128).length ((aZ (l.take k) 128).flatMap En.cells)/\Below R.heap.size R wr) (λ_ i _=>l.length-(intOf i).toNat)
  case atStart=>exact⟨0,kqv _,rfl,kq3 _ _ _ _,kqe _ _⟩
  obtain⟨k,hk,rfl,a,y⟩:=hrel;have hz:=y.size;by_cases o:k<l.length
  .obtain ⟨b,off,rfl,hbw,q0,q1,q2,q3,q4,q5⟩:=RdB.at_ (F.out.below y) o;obtain⟨Z,p,Eq⟩:=E.out k o;obtain⟨b2,N,rfl,hbw2,p0⟩:=RdI.at_ (H.out.below y) Z;rw[p] at p0;have d:=y5 (pE o 128);have f:=kW (l.take k) 128;rw[kq6] at f;have K:=vA r.out o;obtain⟨m,i⟩:=xq (aZ (l.take k) 128);rw[i] at a d f;obtain⟨v,Y⟩:=xq (bK l[k] (aN (l.take k) 128));rw[Y] at Eq p0 d;obtain⟨x,hx⟩:=xq (l[k]);rw[hx] at q0 q1 q2 q3 q4 q5 d K;obtain⟨S,xs,xk,xt,xm,O⟩:=x;dsimp only at q0 q1 q2 q3 q4 q5 d K;have hlm:(k:Int)<(l.length:Int):=(by omega);have hml2:m.length<=1024:=(by omega);have L:b2<wr.heap.size:=(by omega);have p0':=(kzc wr (.cells #[.int .i64 S,.int .i64 xs,.int .i64 xk,.int .i64 xt,.bool xm,.int .u64 (O:Int)] 55) ⟨b2,N+k,none⟩ L).trans p0;have hv2:(v:Int)<=2048:=(by omega);have hv0:(0:Int)<=(v:Int):=(by omega);clear hx i f Y p;by_cases i:xk=1
   .subst i;by_cases p:O=v
    .have Y:((O:Int) != (v:Int))=false:=(by rw[kqt];omega);have f:=y5 (show aZ (l.take (k+1)) 128=m by rw[d.out,if_neg (λh=>h.2 p)];simp);clear d p;go_wp2;go_roundw;exact⟨k+1,by omega,by go_num,by rw[f.out];exact a.alloc _,y.alloc hz _⟩;simp[intOf];omega
    have Y:((O:Int) != (v:Int))=true:=(by rw[kqx];omega);have f:=y5 (show aZ (l.take (k+1)) 128=m++[⟨S+1,v⟩] by rw[d.out,if_pos ⟨rfl,p⟩]);clear d p;go_wp2_with (at_builtin;refine kq7 _ rfl _ _ 26 rfl R.heap.size 89 i0 _ 2 16 underlying26 HI.out V.out W.out X.out rfl (by decide) _ _ _ rfl ((a.alloc _).alloc _) ⟨_,0,none⟩ 1 1 [.int .i64 (S+1),.int .u64 (v:Int)] rfl rfl (lM _ _ _ (kqm _ _)) (by simp[Value.oneCell']) (by unfold maxLen;omega) (by omega) (by simp;omega) ?_;intro v1 w2 p Y _;have z:=ay (y.alloc hz (.cells #[.int .i64 S,.int .i64 xs,.int .i64 1,.int .i64 xt,.bool xm,.int .u64 (O:Int)] 55)) (by simp;omega) (a.alloc _) Y);go_roundw;exact⟨k+1,by omega,by go_num,by rw[f.out,kqu,ce];exact p,z⟩;simp[intOf];omega
   have hk2:(xk==1)=false:=by rw[kqc];exact i
   have f:=y5 (show aZ (l.take (k+1)) 128=m by rw[d.out,if_neg (λh=>i h.1)];simp);clear d i;go_wp2;go_roundw;exact⟨k+1,by omega,by go_num,by rw[f.out];exact a.alloc _,y.alloc hz _⟩;simp[intOf];omega
  rw[kza (by omega)] at a;obtain⟨d,f,rfl⟩:=aw a;have b:=y5 (ab a C.size);clear a;go_wp2;go_ret2;exact⟨⟨d,f,by rw[I.out,U.out];rfl,by rw[I.out];exact b.out⟩,C.trans (y.mono Ka)⟩
 have a:(ao G != 0)=true:=by rw[kqx];exact s
 have I:=y5 (show aI G=[] by simp[aI,s]);obtain⟨r,D⟩:=xq (ao G);have U:=y5 D;rw[D] at P a;clear s D t;go_enter func143,ntmps143;go_wp2_with fail;refine P.out.mono ?_;rintro e w1 ⟨rfl,g⟩;go_wp2;go_ret2;exact⟨bZ U.out I.out,g⟩
end Go.Proofs.YtpcajamacpbjcaaGreat
