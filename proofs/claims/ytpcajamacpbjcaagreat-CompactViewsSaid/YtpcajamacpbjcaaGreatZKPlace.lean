/- Texts laid together: BrkC BrkI PlA PlB. -/
import Derived.Test.YtpcajamacpbjcaaGreatZKPlain
import Derived.RangeFuncNested
import Derived.RangeFuncBound
import Derived.RangeFuncCalls
import Derived.RangeFuncLeaves
import Derived.Shelf.Abstract
import Derived.Shelf.RegionOpen
import Derived.OwnWalkIn
import Derived.TacticsInMore
import Derived.LoopNIn
import Derived.LoopIn
import Derived.Deep.RegionHeld3
import Derived.OrdersIn
import Derived.Deep.DrawnRows
import Derived.Laws.EntriesVeiled
set_option maxHeartbeats 16000000
set_option maxRecDepth 100000
set_option linter.all false
namespace Go.Proofs.YtpcajamacpbjcaaGreat
open Lib (hid)
open Go.RowKit
variable {a:Act}{ops:Array Oper}{s:Int}{l:List Bk}{H k n:Nat}{P:Program}{β:Type}{w w':World}
open Go.Proofs.Tryz
theorem EE(A:Option Addr)(l:List Bk)(c n:Nat)(w:World)(hn:l.length=n)(hm:n<=9223372036854775807)(hr:RdB w w.heap.size A l):
 Calls prog 282 #[.slice A n c] w λe w'=>e=.returned (.int .i64 (bV l))/\Below w.heap.size w w':=by
 subst hn;have U:=hid hr;clear hr;by_cases h:1024<l.length
 .have K:=hid (sx h);go_enter func282,ntmps282;go_wp2;go_ret;exact⟨by rw[K.out];rfl,kqk _ _⟩
 have M:l.length<=1024:=by omega
 clear h;have d1:decide ((1024:Int)<(l.length:Int))=false:=by rw[kqc];omega
 go_enter func282,ntmps282;go_wp2_with fail;go_loopw [3,13] (λD i wr=>∃k:Nat,k<=l.length/\i=.int .i64 k/\D=.int .i64 (dF l k)/\cQ l k=true/\Below w.heap.size w wr) (λ_ i _=>l.length-(intOf i).toNat)
 case atStart=>exact⟨0,kqx _,rfl,rfl,rfl,kqk _ _⟩
 obtain⟨k,hk,rfl,rfl,s,d⟩:=hrel;have B:=hid s;have z:=d.size;obtain⟨O,I⟩:=nP s;clear s;by_cases t:k<l.length
 .obtain ⟨b,f,rfl,v,S,G,F,T,Q,R⟩ := U.out.at_ t;replace S := (d.cell (p := ⟨b,f+k*6,none⟩) v).trans S;replace G := (d.cell (p := ⟨b,f+k*6+1,none⟩) v).trans G;replace F := (d.cell (p := ⟨b,f+k*6+2,none⟩) v).trans F;replace T := (d.cell (p := ⟨b,f+k*6+3,none⟩) v).trans T;replace Q := (d.cell (p := ⟨b,f+k*6+4,none⟩) v).trans Q;replace R := (d.cell (p := ⟨b,f+k*6+5,none⟩) v).trans R;have E := hid (bo l k t);have g:dF l (k+1)=(gk l k).at_+(gk l k).size := rfl;rw[E.out] at g;generalize P:l[k]=x at *;have HX := hid P;clear P;obtain⟨a,xs,H,xt,xm,xn⟩ := x;dsimp only at *;have r := hid g;clear g;generalize C:dF l k=D at *;have u := hid C;clear C;have o:Hid (∀w':World,¬ ((H=1\/H=2)/\2<=xs/\xs<=2048/\xs%2=0/\128<=a/\a%2=0/\a<=2048-xs/\(k=0\/a=D))->Below w.heap.size w w'->Ending.returned (.int .i64 8)=.returned (.int .i64 (bV l))/\Below w.heap.size w w'):=
   λ_ G F=>⟨by rw[uD (yM E.out u.out G) t],F⟩
  have m:Hid (((H=1\/H=2)/\2<=xs/\xs<=2048/\xs%2=0/\128<=a/\a%2=0/\a<=2048-xs/\(k=0\/a=D))->cQ l (k+1)=true):=λh=>sm E.out u.out B.out h;by_cases j:k=0
  .have N:((k:Int)==0)=true:=by rw[kqu];omega
   have q:=hid j;have L:=hid (show D=128 by rw[<-u.out,j];rfl);have y:=L.out;subst y;clear j O I;by_cases hmx:128<=a
   .have J:(if (128:Int)<a then a else 128)=a:=by split<;>omega
    go_wp2_with fail
    all_goals first
     | (go_ret;exact o.out _ (by omega) (d.alloc z _))
     | (
      go_roundw
      case rel=>exact⟨k+1,by omega,by go_num,by rw[r.out],m.out (by have:=q.out;omega),d.alloc z _⟩
      case measure=>simp[intOf];omega)
   have J:(if (128:Int)<a then a else 128)=128:=by rw[if_neg (by omega)]
   go_wp2_with fail
   all_goals (go_ret;exact o.out _ (by omega) (d.alloc z _))
  have N:((k:Int)==0)=false:=by rw[kqi];omega
  have q:=hid j;clear j;go_wp2_with fail
  all_goals first
   | (go_ret;exact o.out _ (by have:=q.out;omega) (d.alloc z _))
   | (
    go_roundw
    case rel=>exact⟨k+1,by omega,by go_num,by rw[r.out];first | go_num | (congr 1;omega),m.out (by have:=q.out;omega),d.alloc z _⟩
    case measure=>simp[intOf];omega)
 have:k=l.length:=by omega
 subst this;have K:=hid (re M B.out);go_wp2;go_ret;exact⟨by rw[K.out];rfl,d⟩
open Go.RowKit Go.Shelf
attribute [local go_sem] Oper.semAt_some
abbrev Idx (l:List Bk):={ k:Nat // k<l.length }
def lp (l:List Bk):Nat->List (Idx l)
 | 0=>[]
 | k+1=>if h:k<l.length/\aA (gk l k)=true then lp l k++[⟨k,h.1⟩] else lp l k
theorem lp_len(l:List Bk)(k:Nat):(lp l k).length<=k:=by
 induction k with
 | zero=>simp[lp]
 | succ k ih=>simp only[lp];split<;>(try simp only[kqz,kq3,kxc])<;>omega
theorem ud(h:k<l.length)(hb:aA (gk l k)=true):lp l (k+1)=lp l k++[⟨k,h⟩]:=by simp only[lp];rw[dif_pos ⟨h,hb⟩]
theorem CC(hb:aA (gk l k)=false):lp l (k+1)=lp l k:=by simp only[lp];rw[dif_neg (λh=>by rw[hb] at h;exact Bool.false_ne_true h.2)]
theorem As(F:Fence)(n:Nat)(hf:F.fn 283)(hro:F.round=none)(hn:1<=n)(l Bs n₀:Nat)(A:Option Addr)(bl:List Bk)(cap:Nat)(hlen:bl.length<=4294967296)(J Jx:List (Idx bl)->World->Prop)(hJ:∀s W o,J s W->J s (W.alloc o))(hY:∀pre x W,J pre W->pre.length<bl.length->YieldAt F (n-1) prog l #[.int .i64 (x.1:Int),(gk bl x.1).val] W λe t =>
  (e=.returned (.bool true)/\J (pre++[x]) t/\Below n₀ W t)\/(e=.returned (.bool false)/\Jx (pre++[x]) t))(W:World)(hn0:n₀<=W.heap.size)(hBs:W.cell? ⟨Bs,0,none⟩=some (.slice A bl.length cap))(hc:RdB W n₀ A bl)(w:J [] W):
 CallsIn F n prog 283 #[.func (.yield l) #[] #[],.pointer (some ⟨Bs,0,none⟩)] W λe t=>(∃v,e=.returned v) /\
  ((∃ys,ys=lp bl bl.length/\J ys t)\/(∃pre,(∃k,pre=lp bl k)/\Jx pre t)):=by
 have U:=hid hc;have V:=hid hY;have D:=hid hJ;clear hc hY hJ;refine callsIn_of_wp func283 rfl hf ?_ hro;simp only[ntmps283,kjy,kq3,kxc,Nat.reduceAdd,Nat.reduceSub,kke,kkf,kkv,kkk,kz5,kzr]
 gi_wp2
 gi_loopw [7] (λi wr=>∃k:Nat,k<=bl.length/\i=.int .i64 k/\J (lp bl k) wr/\Below n₀ W wr)
  (λi _=>bl.length-(intOf i).toNat)
 case atStart=>exact⟨0,kqx _,rfl,w,kqk _ _⟩
 obtain⟨k,hk,rfl,g,a⟩:=hrel;have hz:=a.size;by_cases f:k<bl.length
 .obtain ⟨b,d,rfl,r,w,O,K,P,E,N⟩:=U.out.at_ f;replace w:=(a.cell (p:=⟨b,d+k*6,none⟩) r).trans w;replace O:=(a.cell (p:=⟨b,d+k*6+1,none⟩) r).trans O;replace K:=(a.cell (p:=⟨b,d+k*6+2,none⟩) r).trans K;replace P:=(a.cell (p:=⟨b,d+k*6+3,none⟩) r).trans P;replace E:=(a.cell (p:=⟨b,d+k*6+4,none⟩) r).trans E;replace N:=(a.cell (p:=⟨b,d+k*6+5,none⟩) r).trans N;have q:=V.out (lp bl k) ⟨k,f⟩;dsimp only at q;rw[<-bo bl k f] at w O K P E N;have m:Hid (aA (gk bl k)=true->lp bl (k+1)=lp bl k++[⟨k,f⟩]):=ud f;have y:Hid (aA (gk bl k)=false->lp bl (k+1)=lp bl k):=CC;have L:=hid q;have hpl:=lp_len bl k;clear q;generalize gk bl k=x at *;obtain⟨Q,xs,B,R,G,T⟩:=x;dsimp only at *;cases c:aA ⟨Q,xs,B,R,G,T⟩
  .have z:=hid (y.out c);by_cases j:B=1
   .have M:G=false:=by subst j;simpa [aA] using c
    subst j M;clear c
    gi_wp2
    refine⟨λ_ h=>(by cases h),?_⟩
    gi_wp2
    go_roundw
    case rel=>exact⟨k+1,by omega,by go_num,by rw[z.out];exact D.out _ _ _ g,a.alloc (by omega) _⟩
    case measure=>simp[intOf];omega
   have hkb:(B==1)=false:=by rw[kqi];exact j
   clear c j
   gi_wp2
   refine⟨λ_ h=>(by cases h),?_⟩
   gi_wp2
   go_roundw
   case rel=>exact⟨k+1,by omega,by go_num,by rw[z.out];exact D.out _ _ _ g,a.alloc (by omega) _⟩
   case measure=>simp[intOf];omega
  have C:B=1/\G=true:=by simpa [aA] using c
  obtain⟨rfl,rfl⟩:=C;obtain⟨fn,tmps,assign,body,S,X⟩:=L.out (wr.alloc (.cells #[.int .i64 Q,.int .i64 xs,.int .i64 1,.int .i64 R,.bool true,.int .u64 (T:Int)] 55)) (D.out _ _ _ g) (by omega);unfold Bk.val at S;dsimp only at S
  gi_wp2
  refine X.mono ?_;rintro e W3 (⟨rfl,H,I⟩|⟨rfl,u⟩)
  .gi_wp2
   go_roundw
   case rel=>exact⟨k+1,by omega,by go_num,by rw[m.out c];exact H,(a.alloc (by omega) _).trans I⟩
   case measure=>simp[intOf];omega
  gi_wp2
  refine kqr (results_none rfl _ _ _) rfl ?_;exact⟨⟨_,rfl⟩,.inr ⟨_,⟨k+1,(m.out c).symm⟩,u⟩⟩
 obtain rfl:k=bl.length:=by omega
 gi_wp2
 go_end0;exact⟨⟨_,rfl⟩,.inl ⟨_,rfl,g⟩⟩
theorem DG(F:Fence)(n:Nat)(h:F.fn 254)(hro:F.round=none)(A:Option Addr)(len cap:Nat)(w:World):
 CallsIn F n prog 254 #[.slice A len cap] w λe w'=>e=.returned (.func (.func 283) #[] #[.pointer (some ⟨w.heap.size,0,none⟩)])/\w'=w.alloc (.cells #[.slice A len cap] 48):=by
 refine callsIn_of_wp func254 rfl h ?_ hro;simp only[ntmps254,kjy,kq3,kxc,Nat.reduceAdd,Nat.reduceSub,kke,kkf,kkv,kkk,kz5,kzr]
 gi_wp2
 go_ret;exact⟨rfl,rfl⟩
theorem vp(F:Fence)(n:Nat)(hf:F.fn 283)(hro:F.round=none)(hn:1<=n)(Bs n₀:Nat)(A:Option Addr)(bl:List Bk)(cap:Nat)(hlen:bl.length<=4294967296)(w:World)(hBs:Bs<w.heap.size)(hn₀:n₀<=w.heap.size)(hc:w.cell? ⟨Bs,0,none⟩=some (.slice A bl.length cap))(hI:RdB w n₀ A bl):
 SeqStopsK F n prog 283 #[.pointer (some ⟨Bs,0,none⟩)] (λx:Idx bl=>#[.int .i64 (x.1:Int),(gk bl x.1).val]) (Below n₀) (λi=>i=lp bl bl.length) (λb=>∃k,b=lp bl k) bl.length w:=λl J f W a d _ g h =>
 As F n hf hro hn l Bs n₀ A bl cap hlen J f (λs W o c=>d s W _ none c (World.grownBy_alloc W o none) (λr e=>by cases e)) g W (kzv hn₀ a.size) ((a.cell (p:=⟨Bs,0,none⟩) hBs).trans hc) (hI.below (a.mono hn₀)) h
attribute [local go_sem] Oper.semAt_some
theorem mO:(prog.info? 3).map (λi=>(i.zero,i.size,i.bytes))=some (some (.int .i64 0),1,8):=by kernel_rfl
def Bk.arr (b:Bk):Array Value:=#[.int .i64 b.at_,.int .i64 b.size,.int .i64 b.kind,.int .i64 b.typ,.bool b.mark,.int .u64 (b.next:Int)]
theorem uf(B:Nat)(t:TypeId)(f:β->Array Value):Own (λs W=>Bx W B t (f s)):=λs X Y row b g a =>
 Bx.grown b g (λd=>by obtain⟨o,c,e⟩:=a B d.symm;rw[show X.heap[B]? = _ from b] at c;cases c;cases e)
def sD (l:List Bk):List (Idx l)->Int
 | []=>0
 | x::p=>sD l p+(gk l x.1).size
theorem vK(l:List Bk)(p:List (Idx l))(x:Idx l):sD l (p++[x])=sD l p+(gk l x.1).size:=by
 induction p with
 | nil=>simp[sD]
 | cons y p ih=>simp only[kzr,sD,ih];omega
theorem szSum_lp(hk:k<=l.length)(s:Int):s+sD l (lp l k)=aD (l.take k) s:=by
 induction k with
 | zero=>simp[lp,sD,aD]
 | succ k ih =>
  have:=ih (by omega);rw[fX (by omega),<-bo l k (by omega)];cases a:aA (gk l k)
  .rw[CC a,this];simp
  rw[ud (by omega) a,vK];simp;omega
theorem z5(h:bV l=0)(x:Idx l):2<=(gk l x.1).size/\(gk l x.1).size<=2048:=by have:=(eh _).1 (dK (dg h).2 x.2).1;omega
theorem ra(A:Option Addr)(l:List Bk)(c n:Nat)(s:Int)(w:World)(hn:l.length=n)(hm:n<=9223372036854775807)(hr:RdB w w.heap.size A l)(hs : -9223372036854775808<=s/\s<=9223372036854775807):
 Calls prog 252 #[.slice A n c,.int .i64 s] w λe w'=>e=.returned (.int .i64 (d7 l s))/\Below w.heap.size w w':=by
 subst hn;have C:=hid hr;clear hr;have r:Hid (bV l≠0->d7 l s=bV l):=λh=>Di h;have m:Hid (bV l=0->s<128\/nz l<s\/s%2≠0->d7 l s=2):=λh t=>Fk h t;have k:Hid (bV l=0->128<=s/\s<=nz l/\s%2=0->d7 l s=0):=λh t=>xS h t;obtain⟨sb1,sb2⟩:=hs;have y:Hid (s%2=0)/\(s%2 != 0)=false\/Hid (s%2≠0)/\(s%2 != 0)=true:=by
  by_cases h:s%2=0
  .exact .inl ⟨h,by rw[kqp];exact h⟩
  exact .inr ⟨h,by rw[kqt];exact h⟩
 have f:Hid (nz l=2048)/\l.length=0\/0<l.length:=by
  by_cases h:l.length=0
  .exact .inl ⟨by simp[Hid,nz,h],h⟩
  exact .inr (by omega)
 rcases y with⟨g,B⟩|⟨g,B⟩
 all_goals
  go_enter func252,ntmps252;go_wp2_with fail;refine (EE A l c l.length _ rfl hm C.out).mono ?_;rintro e w1 ⟨rfl,d⟩;by_cases a:bV l=0
  .have j:=hid a;rw[a];clear a;rcases f with⟨o,u⟩|v
   .have v:¬ 0<l.length:=by omega
    clear u;go_wp2_with fail
    all_goals
     go_ret
     first
      | exact⟨by rw[m.out j.out (by rw[o.out];have:=g.out;omega)];rfl,d⟩
      | exact⟨by rw[k.out j.out (by rw[o.out];have:=g.out;omega)];rfl,d⟩
   obtain⟨b,z,rfl,F,q,-⟩:=C.out.at_ v;replace q:=(d.cell (p:=⟨b,z+0*6,none⟩) F).trans q;have i:=hid (show nz l=l[0].at_ by simp only[nz,show l.length≠0 from by omega,if_false];rw[bo l 0 v]);simp only[kkz,kz6] at q;obtain⟨D,f⟩:=xq (l[0].at_);rw[f] at q;have o:=hid (show nz l=D by rw[i.out,f]);have hdd:(0:Int)<(l.length:Int):=by omega
   clear f i;go_wp2_with fail
   all_goals
    go_ret
    first
     | exact⟨by rw[m.out j.out (by rw[o.out];have:=g.out;omega)];rfl,d⟩
     | exact⟨by rw[k.out j.out (by rw[o.out];have:=g.out;omega)];rfl,d⟩
  have E:=hid (r.out a);have hn1:(bV l==0)=false:=by rw[kqi];exact a
  have hn2:(bV l != 0)=true:=by rw[kqt];exact a
  clear a;go_wp2;go_ret;exact⟨by rw[E.out];rfl,d⟩
def je (l:List Bk) (s:Int):List Int:=if d7 l s=0 then aL l s else []
def xW (l:List Bk) (s:Int) (e:Ending) (w':World):Prop:=∃A c,e=.returned (.tuple #[.slice A (je l s).length c,.int .i64 (d7 l s)])/\RdI w' w'.heap.size A (je l s)/\(je l s).length<=c
theorem rg{v:Value}(h0:d7 l s=0)(hn:l.length=n)(h:w'.ownsRow H 3 1 v n ((aL l s).flatMap a8)):xW l s (.returned (.tuple #[v,.int .i64 0])) w':=by
 subst hn;have d:(je l s).length=l.length:=by simp[je,h0,cN]
 have e:∃A c,v=.slice A l.length c/\l.length<=c:=by
  rcases h.2 with⟨rfl,b⟩|⟨g,cap,cur,rfl,_,_,a,_⟩
  .exact ⟨none,0,by rw[b],by omega⟩
  exact⟨_,_,rfl,a⟩
 obtain⟨A,c,rfl,a⟩:=e;refine⟨A,c,by rw[d,h0],?_,by rw[d];exact a⟩;have:=Rd.of_own h
 simpa [RdI,je,h0] using this
theorem A0{r:Int}(hr:d7 l s=r)(h0:r≠0):xW l s (.returned (.tuple #[.slice none 0 0,.int .i64 r])) w':=by
 subst hr;have:je l s=[]:=by simp[je,h0]
 exact⟨none,0,by rw[this];rfl,by rw[this];exact Rd.nil_,by rw[this];simp⟩
attribute [local go_sem] Oper.semAt_some
def jy (Q:Exit->Act->World->Prop):Exit->Act->World->Prop
 | .normal,a,w=>Q .normal a w
 | _,_,_=>False
theorem De{l:Nat}{Q:Exit->Act->World->Prop}(hd:∀o∈ops.toList,∀c,o.op≠.defer c){i:Nat}{K:Act->World->Prop}(h:wpOp P ops (jy Q) i K a w):wpOpIn (Fence.wide.inRound l) n P ops Q i K a w:=by
 unfold wpOp at h;unfold wpOpIn;split
 .rename_i e
  simpa only[e] using h
 rename_i o ho;simp only[ho] at h;split
 .rename_i hw;simp only[hw,if_true] at h;rcases h with h|⟨_,_,_,h⟩
  .refine ⟨λ_ _=>trivial,?_⟩;have g:o∈ops.toList:=by obtain⟨hlt,b⟩:=kjt.1 ho;rw[<-b];simp
   rw[Oper.semAt_eq _ _ _ (hd o g)];unfold Oper.wp at h;generalize (execOp a.eval o).run P w=r at *;cases r with
   | ok x w' =>
    cases x<;>simp only[Oper.upon,Oper.uponIn] at h |-
    case value u=>exact h
    case skip=>exact h
    case defer d=>exact h
    case enter f args =>
     refine⟨λh=>(by cases h),CallsIn.inRound l (callsIn_wide.2 (h.mono λe w'' b=>?_))⟩;cases e with
     | returned u=>exact b
     | panicked c=>exact b.elim
     | outgrown=>obtain⟨_,_,b⟩:=b;exact b.elim
    case row row args =>
     exact⟨λh=>(by cases h),λc cs _=>(let ⟨v,w',q,s⟩:=h c cs;⟨v,w',q,stepsIn_wide.2 s⟩)⟩
   | halt x w' =>
    cases x<;>simp only[Oper.upon,Oper.uponIn] at h |-
    case panic u=>exact h.elim
  exact h.elim
 rename_i hw;simp only[hw] at h;exact⟨λ_ _=>trivial,h⟩
theorem tP{l:Nat}{md:Region.Mode}{Q:Exit->Act->World->Prop}(hd:∀o∈ops.toList,∀c,o.op≠.defer c):
 ∀(fuel:Nat) (listed:Array Bool) (a:Act) (w:World),wpAny P md ops (jy Q) fuel listed a w->wpAnyIn (Fence.wide.inRound l) n P md ops Q fuel listed a w
 | 0,_,_,_,h=>h
 | fuel+1,_,_,_,h=>⟨h.1,λi b=>wpOpIn_mono (λd w' e=>tP hd fuel _ d w' e) (De hd (h.2 i b))⟩
theorem qK{l:Nat}{id:Nat}{Q:Exit->Act->World->Prop}(S:World->Prop)(hm:P.follows .mixedOrders=true)(hd:∀o∈ops.toList,∀c,o.op≠.defer c)(h:wpAnyH P .any ops (jy Q) S ops.size (Array.replicate ops.size false) a w.drew):(Code.region id ops true).wpIn (Fence.wide.inRound l) n P Q a w:=
 wpIn_region_any hm (tP hd _ _ _ _ (wpAny_of_held _ _ _ _ h))
theorem Dn(u m:Int)(g:Nat)(w:World)(h1:0<=u)(h2:u<=2048)(h3:0<=m)(h4:m<=2200000)(hc:w.cell? ⟨g,0,none⟩=some (.int .i64 m))(hf:w.frozen? ⟨g,0,none⟩=false):
 Calls prog 253 #[.int .i64 u,.pointer (some ⟨g,0,none⟩)] w λe w'=>e=.returned (.int .i64 m)/\w.setCell ⟨g,0,none⟩ (.int .i64 (m+u))=w':=by go_enter func253,ntmps253;go_wp2;go_ret;exact⟨Fg (by omega),rfl⟩
theorem zu(B:Nat)(t:TypeId)(n:Nat)(f:β->Nat->Value):Own (λs W=>W.rowIs B t n (f s)):=λs X Y row e k a=>by obtain⟨c,b,i,g⟩:=e;refine⟨c,(k.block B (kjt.1 b).1 (λh=>?_)).trans b,i,g⟩;obtain⟨o,d,j⟩:=a B h.symm;rw[b] at d;cases d;cases j
def gi (l:List Bk) (s:Int) (pre:List (Idx l)):Int × (Nat->Int):=
 pre.foldl (λst x=>(st.1+(gk l x.1).size,λj=>if j=x.1 then st.1 else st.2 j)) (s,λ_=>0)
theorem jp(l:List Bk)(s:Int)(pre:List (Idx l))(x:Idx l):
 gi l s (pre++[x])=((gi l s pre).1+(gk l x.1).size,λj=>if j=x.1 then (gi l s pre).1 else (gi l s pre).2 j):=by simp[gi]
theorem B7(h:bV l=0)(s:Int)(a:List (Idx l)):s<=(gi l s a).1/\(gi l s a).1<=s+2048*a.length:=by
 have d:∀(n:Nat) (a:List (Idx l)),a.length=n->s<=(gi l s a).1/\(gi l s a).1<=s+2048*a.length:=by
  intro n
  induction n with
  | zero=>intro a c;rw[kxa c];simp[gi]
  | succ n ih =>
   intro a c;have b:a≠[]:=by intro e;subst e;simp at c
   obtain⟨q,x,rfl⟩:∃q x,a=q++[x]:=⟨a.dropLast,a.getLast b,(List.dropLast_concat_getLast b).symm⟩;have:=ih q (by simpa using c);have hx:=z5 h x;rw[jp];simp only[kqz,kq3,kxc];omega
 exact d _ a rfl
theorem BQ(s:Int)(h:k<=l.length):(gi l s (lp l k)).1=aD (l.take k) s/\∀j,j<k->(gi l s (lp l k)).2 j=(aL (l.take k) s)[j]?.getD 0:=by
 induction k with
 | zero=>simp[lp,gi,aD]
 | succ k ih =>
  obtain⟨c,f⟩:=ih (by omega);have g:(aL (l.take k) s).length=k:=by rw[cN,kzd];omega
  have b:∀ {m:Nat},k<=m->m<=l.length->(gi l s (lp l k)).2 m=0:=by
   intro m d _;have:∀(k:Nat),k<=l.length->∀m,k<=m->(gi l s (lp l k)).2 m=0:=by
    intro k h
    induction k with
    | zero=>intro m _;rfl
    | succ k ih =>
     intro m d;cases a:aA (gk l k)
     .rw[CC a];exact ih (by omega) m (by omega)
     rw[ud (by omega) a,jp];dsimp only;rw[if_neg (by omega)];exact ih (by omega) m (by omega)
   exact this k (by omega) m d
  rw[fX (by omega),io (by omega),<-bo l k (by omega)];cases a:aA (gk l k)
  .rw[CC a];refine⟨by simp[c],λj i=>?_⟩;by_cases e:j=k
   .subst e;rw[b (kqb _) (by omega),kxp (by omega),g];simp
   rw[kkg (by omega)];exact f j (by omega)
  rw[ud (by omega) a,jp];refine⟨by simp[c],λj i=>?_⟩;dsimp only;by_cases e:j=k
  .subst e;rw[if_pos rfl,kxp (by omega),g];simp[c]
  rw[if_neg e,kkg (by omega)];exact f j (by omega)
theorem rm{B:Nat}{t:TypeId}{f:Nat->Value}{xs:List Value}(h:w.rowIs B t n f)(hB:H<=B)(hm:n<=maxLen)(hl:xs.length=n)(hx:∀i,i<n->xs[i]? = some (f i)):
 w.ownsRow H t 1 (.slice (some ⟨B,0,none⟩) n n) n xs:=by
 obtain⟨c,b,h1,d⟩:=h;refine⟨by omega,.inr ⟨B,n,c,rfl,hB,b,kqb _,hm,by omega,?_⟩⟩;apply kx9;intro i;by_cases a:i<n
 .rw[List.getElem?_take_of_lt (by omega),hx i a,<-d i a];simp
 rw[kzg (by rw[kzd];simp;omega),kzg (by omega)]
theorem xy(A:Option Addr)(l:List Bk)(c n:Nat)(s:Int)(w:World)(hn:l.length=n)(hm:n<=4294967296)(hr:RdB w w.heap.size A l)(hs : -9223372036854775808<=s/\s<=9223372036854775807):
 CallsIn Fence.wide 6 prog 206 #[.slice A n c,.int .i64 s] w λe w' =>
  (d7 l s=0->∃v,e=.returned (.tuple #[v,.int .i64 0])/\w'.ownsRow w.heap.size 3 1 v n ((aL l s).flatMap a8))/\(d7 l s≠0->e=.returned (.tuple #[.slice none 0 0,.int .i64 (d7 l s)]))/\Below w.heap.size w w':=by
 subst hn;have HR:=hid hr;clear hr;by_cases I:d7 l s=0
 .obtain ⟨E,hs1,hs2,_⟩:=cZ I;have hlen:=(dg E).1;have hmb:=y8 E;have hmk:=run_make_row' (P:=prog) 42 3 (.int .i64 0) 8 underlying42 mO rfl .i64 .i64 l.length (by omega) (by omega);have o:=ra A l c l.length s (w.alloc (.cells #[.int .i64 s] 3)) rfl (by omega) ((HR.out.alloc (kqb _) _).more (by simp)) hs;rw[I] at o;have O:=hid o;have Fv:=hid E;refine CallsIn.mono (R:=λe w'=>(∃v,e=.returned (.tuple #[v,.int .i64 0])/\w'.ownsRow w.heap.size 3 1 v l.length ((aL l s).flatMap a8))/\Below w.heap.size w w') ?_ (λe w' h=>⟨λ_=>h.1,λh'=>absurd I h',h.2⟩);clear I o E;refine callsIn_of_wp_marks func206 rfl trivial ?_ rfl;simp only[ntmps206,kjy,kq3,kxc,Nat.reduceAdd,Nat.reduceSub,kke,kkf,kkv,kkk,kz5,kzr]
  gi_wp2
  refine⟨trivial,(callsIn_wide.2 O.out).mono ?_⟩;rintro e b ⟨rfl,f⟩;rw[kqn] at f;have b0:=Bx.of_new f;have Z:=ao f;have Gc:=Z.size
  gi_wp2
  refine⟨trivial,(DG Fence.wide _ trivial rfl A l.length c _).mono ?_⟩;rintro e w2 ⟨rfl,rfl⟩;have r0:((b.alloc (.cells #[.func (.func 253) #[] #[.pointer (some ⟨w.heap.size,0,none⟩)]] 272)).alloc (.cells (madeCells #[.int .i64 0] l.length) 3)).rowIs (b.heap.size+1) 3 l.length (λ_=>.int .i64 0):=by have:=World.rowIs_made (b.alloc (.cells #[.func (.func 253) #[] #[.pointer (some ⟨w.heap.size,0,none⟩)]] 272)) (.int .i64 0) l.length 3;rwa [kqn] at this
  have f0:=Bx.new b 272 #[.func (.func 253) #[] #[.pointer (some ⟨w.heap.size,0,none⟩)]];obtain⟨J,B⟩:∃J,b.alloc (.cells #[.func (.func 253) #[] #[.pointer (some ⟨w.heap.size,0,none⟩)]] 272)=J:=⟨_,rfl⟩;have ba:Bx J w.heap.size 3 #[.int .i64 s]:=by rw[<-B];exact b0.alloc _
  have Fs:Below w.heap.size w J:=by rw[<-B];exact Z.alloc Gc _
  have Eq:J.heap.size=b.heap.size+1:=by rw[<-B];simp
  rw[B] at r0 f0 |-;clear B b0 Z;obtain⟨L,F⟩:=xq (madeCells #[Value.int .i64 0] l.length);rw[F] at r0 |-;have bb:=ba.alloc (.cells L 3);have fb:=f0.alloc (.cells L 3);have T:=Fs.alloc (by omega) (.cells L 3);have g:(J.alloc (.cells L 3)).heap.size=b.heap.size+2:=by simp[Eq]
  obtain⟨wb,Fu⟩:=xq (J.alloc (.cells L 3));rw[Fu] at r0 bb fb T g |-;clear Fu F ba f0 Fs Eq;have ob:=Bx.new wb 42 #[.slice (some ⟨b.heap.size+1,0,none⟩) l.length l.length];have b2:=(bb.alloc (.cells #[.slice (some ⟨b.heap.size+1,0,none⟩) l.length l.length] 42)).alloc (.cells #[.slice A l.length c] 48);have f2:=(fb.alloc (.cells #[.slice (some ⟨b.heap.size+1,0,none⟩) l.length l.length] 42)).alloc (.cells #[.slice A l.length c] 48);have r2:=(r0.alloc (.cells #[.slice (some ⟨b.heap.size+1,0,none⟩) l.length l.length] 42)).alloc (.cells #[.slice A l.length c] 48);have o2:=ob.alloc (.cells #[.slice A l.length c] 48);have Q:=(T.alloc (by omega) (.cells #[.slice (some ⟨b.heap.size+1,0,none⟩) l.length l.length] 42)).alloc (by simp;omega) (.cells #[.slice A l.length c] 48);have c1:=Bx.new (wb.alloc (.cells #[.slice (some ⟨b.heap.size+1,0,none⟩) l.length l.length] 42)) 48 #[.slice A l.length c];have Fy:((wb.alloc (.cells #[.slice (some ⟨b.heap.size+1,0,none⟩) l.length l.length] 42)).alloc (.cells #[.slice A l.length c] 48)).heap.size=b.heap.size+4:=by simp[g]
  rw[g] at o2;rw[kqn,g] at c1;obtain⟨W0,Fr⟩:∃W0,(wb.alloc (.cells #[.slice (some ⟨b.heap.size+1,0,none⟩) l.length l.length] 42)).alloc (.cells #[.slice A l.length c] 48)=W0:=⟨_,rfl⟩;rw[Fr] at b2 f2 r2 o2 Q c1 Fy |-;clear Fr r0 bb fb T ob
  gi_wp2
  refine wpIn_rangeFunc_ownH rfl (show 1<=6 by omega) (gf:=283) (lb:=#[.pointer (some ⟨b.heap.size+2+1,0,none⟩)]) rfl trivial (enters_of func283 (by kernel_rfl) rfl)
   (vp Fence.wide 5 trivial rfl (by omega) (b.heap.size+2+1) w.heap.size A l c (by omega) W0 (by omega) (by omega) (c1.c1).1 ((HR.out).below Q)) belowK_t (belowK_b (by omega)) (kqk _ _) (λ_=>rfl)
   (λd W=>(Bx W w.heap.size 3 #[.int .i64 (gi l s d).1]/\Bx W b.heap.size 272 #[.func (.func 253) #[] #[.pointer (some ⟨w.heap.size,0,none⟩)]]/\Bx W (b.heap.size+2) 42 #[.slice (some ⟨b.heap.size+1,0,none⟩) l.length l.length]/\W.rowIs (b.heap.size+1) 3 l.length (λj=>.int .i64 ((gi l s d).2 j)))/\Below w.heap.size w W)
   (λ_ _ _=>False)
   (OwnFrom.and (OwnFrom.and (Own.from (uf _ _ _) _) (OwnFrom.and (Own.from (uf _ _ _) _) (OwnFrom.and (Own.from (uf _ _ _) _) (Own.from (zu _ _ _ _) _)))) (ownFrom_below (kqb _) (by omega)))
   (λ_ _ _ _ _ hs _ _=>hs)
   ⟨⟨b2,f2,o2,r2⟩,Q⟩
   (λx a' W=>∃Bx',b.heap.size+2<Bx'/\Bx W Bx' 55 (gk l x.1).arr/\a'={ tmps:=#[.slice A l.length c,.int .i64 s,undef,.pointer (some ⟨w.heap.size,0,none⟩),.slice none 0 0,.int .i64 0,.int .i64 0,.pointer (some ⟨b.heap.size,0,none⟩),.pointer (some ⟨b.heap.size+1+1,0,none⟩),.int .i64 (x.1:Int),.pointer (some ⟨Bx',0,none⟩),.slice A l.length c,.int .i64 s,.int .i64 0,.int .i64 0,.bool false,undef,.func (.func 253) #[] #[.pointer (some ⟨w.heap.size,0,none⟩)],.slice A l.length c,.int .i64 (l.length:Int),.slice (some ⟨b.heap.size+1,0,none⟩) l.length l.length,.slice A l.length c,.func (.func 283) #[] #[.pointer (some ⟨b.heap.size+2+1,0,none⟩)],.int .i64 (x.1:Int),(gk l x.1).val,undef,undef,undef,undef,undef,undef,undef,undef],defers:=[] })
   (λx a' _ X Y row hs hg hr=>by obtain⟨B',h1,h2,h3⟩:=hs;exact⟨B',h1,uf B' 55 (λ(_:Unit)=>(gk l x.1).arr) () X Y row h2 hg (λr e=>(hr r e).2),h3⟩)
   ?assign ?body ?done ?stop
  case assign =>
   rintro l' d x W K ⟨⟨bS,bF,G,H⟩,hB⟩ k;have hz:=hB.size;obtain⟨y,hy⟩:=xq (gk l x.1);rw[hy] at k |-;obtain⟨xa,xs,xk,xt,xm,xn⟩:=y;unfold Bk.arr Bk.val at k;unfold Bk.val;dsimp only at k |-;have HK:=hid k;clear k hy
   gi_wp2
   exact HK.out _ _ ((KeepsOthers.alloc _ _).from _) ((kqk _ W).alloc hz _) ⟨⟨bS.alloc _,bF.alloc _,G.alloc _,H.alloc _⟩,hB.alloc hz _⟩ ⟨W.heap.size,G.lt,Bx.new W _ _,rfl⟩
  case body =>
   rintro l' d x a' W hl ⟨r,hr⟩ ⟨⟨bS,bF,G,H⟩,hB⟩ ⟨B',hB',bX,rfl⟩ Fz;have g:=B7 Fv.out s d;have Fp:=z5 Fv.out x;have Ft:=hid (jp l s d x);have hxl:=x.2;have g1:W.cell? ⟨B',1,none⟩=some (.int .i64 (gk l x.1).size):=bX.cell 1;obtain⟨s1,s2,s3⟩:=bS.c1;obtain⟨t1,t2,t3⟩:=bF.c1;obtain⟨o1,o2,o3⟩:=G.c1;have r1:=H.frozen x.1;have N:prog.follows .mixedOrders=true:=by kernel_rfl
   obtain⟨q,hq⟩:∃q,W.cell? ⟨b.heap.size+1,x.1,none⟩=some (.int .i64 q):=⟨_,H.cell x.2⟩;have hxi:(x.1:Int)<(l.length:Int):=by omega
   have hx0:(0:Int)<=(x.1:Int):=by omega
   have hxn:((x.1:Int)).toNat=x.1:=by omega
   obtain⟨u,hu⟩:=xq ((gk l x.1).size);obtain⟨m,U⟩:=xq ((gi l s d).1);rw[hu] at g1 Fp;rw[U] at s1 g;have Gd:m<=2200000:=by omega
   have Fx:0<=m:=by omega
   obtain⟨hx1,Ga⟩:=Fp;have bS2:=hid bS;have bR2:=hid H;have bF2:=hid bF;have bO2:=hid G;have HU:=hid hu;have Fw:=hid U;clear g bS H bF G hu U Fz
   gi_wp2
   have z:(λX:World=>X.cell? ⟨b.heap.size+1+1,0,none⟩=some (.slice (some ⟨b.heap.size+1,0,none⟩) l.length l.length)/\X.cell? ⟨b.heap.size,0,none⟩=some (.func (.func 253) #[] #[.pointer (some ⟨w.heap.size,0,none⟩)])/\X.cell? ⟨B',1,none⟩=some (.int .i64 u)) W.drew:=⟨o1,t1,g1⟩;refine qK (λX:World=>X.cell? ⟨b.heap.size+1+1,0,none⟩=some (.slice (some ⟨b.heap.size+1,0,none⟩) l.length l.length)/\X.cell? ⟨b.heap.size,0,none⟩=some (.func (.func 253) #[] #[.pointer (some ⟨w.heap.size,0,none⟩)])/\X.cell? ⟨B',1,none⟩=some (.int .i64 u)) N (by simp) ?_;show wpAnyH _ _ _ _ _ 8 #[false,false,false,false,false,false,false,false] _ _;refine kkn (i:=0) (v:=.slice (some ⟨b.heap.size+1,0,none⟩) l.length l.length) rfl (by kernel_rfl) (by kernel_rfl) (by kernel_rfl) (λ_ _ _ h=>h) (Or.inl ⟨by rfl,?_⟩) z ?_
   .intro X C;obtain⟨q1,q2,q3⟩:=C;go_simp
   dsimp only[Act.put,kqa,kqg,kqf];refine kkn (i:=1) (v:=.int .i64 (x.1:Int)) rfl (by kernel_rfl) (by kernel_rfl) (by kernel_rfl) (λ_ _ _ h=>h) (Or.inl ⟨by rfl,?_⟩) z ?_
   .intro X C;obtain⟨q1,q2,q3⟩:=C;go_simp
   dsimp only[Act.put,kqa,kqg,kqf];refine kkn (i:=2) (v:=.func (.func 253) #[] #[.pointer (some ⟨w.heap.size,0,none⟩)]) rfl (by kernel_rfl) (by kernel_rfl) (by kernel_rfl) (λ_ _ _ h=>h) (Or.inl ⟨by rfl,?_⟩) z ?_
   .intro X C;obtain⟨q1,q2,q3⟩:=C;go_simp
   dsimp only[Act.put,kqa,kqg,kqf];refine kkn (i:=3) (v:=.pointer (some ⟨B',1,none⟩)) rfl (by kernel_rfl) (by kernel_rfl) (by kernel_rfl) (λ_ _ _ h=>h) (Or.inl ⟨by rfl,?_⟩) z ?_
   .intro X C;obtain⟨q1,q2,q3⟩:=C;go_simp
   dsimp only[Act.put,kqa,kqg,kqf];refine kkn (i:=4) (v:=.int .i64 u) rfl (by kernel_rfl) (by kernel_rfl) (by kernel_rfl) (λ_ _ _ h=>h) (Or.inl ⟨by rfl,?_⟩) z ?_
   .intro X C;obtain⟨q1,q2,q3⟩:=C;go_simp
   dsimp only[Act.put,kqa,kqg,kqf];refine kz4 (rs:=[5]) (by kernel_rfl) (by simp) ?_;refine AllReadyH.cons rfl (λK k=>?_) AllReadyH.nil;go_simp;refine (Dn u m w.heap.size W.drew (by omega) Ga Fx Gd s1 s2).mono ?_;rintro e w' ⟨rfl,rfl⟩;go_simp;have Fq:=f.size;rw[kqn] at Fq;have ne:∀(p:Addr),p.block≠w.heap.size->((W.setCell ⟨w.heap.size,0,none⟩ (.int .i64 (m+u))).drew).cell? p=W.cell? p:=λp hp=>kkh W _ _ _ (by rintro rfl;exact hp rfl);refine k.out _ _ ⟨(ne _ (by dsimp only;omega)).trans o1,(ne _ (by dsimp only;omega)).trans t1,(ne _ (by dsimp only;omega)).trans g1⟩ (λS=>?_);clear k K;have Gb:=(ne ⟨b.heap.size+1,x.1,none⟩ (by dsimp only;omega)).trans hq;have r1':((W.setCell ⟨w.heap.size,0,none⟩ (.int .i64 (m+u))).drew).frozen? ⟨b.heap.size+1,x.1,none⟩=false:=by show (W.setCell _ _).frozen? _=_;rw[World.frozen?_setCell];exact r1
   have NE:=hid ne;clear ne;obtain⟨V,hV⟩:∃V,(W.setCell ⟨w.heap.size,0,none⟩ (.int .i64 (m+u))).drew=V:=⟨_,rfl⟩;have HV:=hid hV;rw[hV] at Gb r1' S |-;clear hV;refine kkn (i:=6) (v:=.pointer (some ⟨b.heap.size+1,x.1,none⟩)) rfl (by kernel_rfl) (by kernel_rfl) (by kernel_rfl) (λ_ _ _ h=>h) (Or.inl ⟨by rfl,?_⟩) S ?_
   .intro X C;obtain⟨q1,q2,q3⟩:=C;go_simp
   dsimp only[Act.put,kqa,kqg,kqf];refine kz4 (rs:=[7]) (by kernel_rfl) (by simp) ?_;refine AllReadyH.cons rfl (λK k=>?_) AllReadyH.nil;go_simp;obtain⟨p1,p2,p3⟩:=S;have M:∀(p:Addr),p.block≠b.heap.size+1->(V.setCell ⟨b.heap.size+1,x.1,none⟩ (.int .i64 m)).cell? p=V.cell? p:=λp hp=>kkh _ _ _ _ (by rintro rfl;exact hp rfl);refine k.out _ _ ⟨(M _ (by dsimp only;omega)).trans p1,(M _ (by dsimp only;omega)).trans p2,(M _ (by dsimp only;omega)).trans p3⟩ (λHS2=>?_);clear k K;refine kjd (by kernel_rfl) ?_ _;dsimp only[jy]
   gi_wp2
   have hV:=HV.out;subst hV;have E1:(gi l s (d++[x])).1=m+u:=by rw[Ft.out];show (gi l s d).1+_=_;rw[Fw.out,HU.out]
   have E2:∀j,(gi l s (d++[x])).2 j=if j=x.1 then m else (gi l s d).2 j:=λj=>by rw[Ft.out];show (if j=x.1 then (gi l s d).1 else _)=_;rw[Fw.out]
   have k1:KeepsOthers W ((W.setCell ⟨w.heap.size,0,none⟩ (.int .i64 (m+u))).drew):=(KeepsOthers.setCell _ _ _).trans (KeepsOthers.drew _);have b1:Below w.heap.size W ((W.setCell ⟨w.heap.size,0,none⟩ (.int .i64 (m+u))).drew):=((kqk _ W).setCell (p:=⟨w.heap.size,0,none⟩) (kqb _) _).drew;refine⟨(k1.trans (KeepsOthers.setCell _ _ _)).from _,b1.setCell (p:=⟨b.heap.size+1,x.1,none⟩) (by dsimp only;omega) _,⟨?_,?_,?_,?_⟩,(hB.trans (b1.mono (kqb _))).setCell (p:=⟨b.heap.size+1,x.1,none⟩) (by dsimp only;omega) _⟩
   .rw[E1];exact Bx.far (bS2.out.set_ 0 _) (p:=⟨b.heap.size+1,x.1,none⟩) (by dsimp only;omega) _
   .exact Bx.far (bF2.out.far (p:=⟨w.heap.size,0,none⟩) (by dsimp only;omega) _) (p:=⟨b.heap.size+1,x.1,none⟩) (by dsimp only;omega) _
   .exact Bx.far (bO2.out.far (p:=⟨w.heap.size,0,none⟩) (by dsimp only;omega) _) (p:=⟨b.heap.size+1,x.1,none⟩) (by dsimp only;omega) _
   refine World.rowIs.congr (World.rowIs.set (w:=(W.setCell ⟨w.heap.size,0,none⟩ (.int .i64 (m+u))).drew) (bR2.out.setOther (a:=⟨w.heap.size,0,none⟩) (by dsimp only;omega) _) x.1 (.int .i64 m)) (λj hj=>?_);rw[E2];by_cases e:j=x.1
   .rw[if_pos e,if_pos e]
   rw[if_neg e,if_neg e]
  case done =>
   rintro D zs W hD rfl ⟨⟨bS,bF,G,H⟩,hB⟩ k;obtain⟨o1,o2,o3⟩:=G.c1;have HP:=(BQ (l:=l) s (kqb l.length)).2;rw[kzj] at HP;have Fo:(aL l s).flatMap a8=(aL l s).map (λv=>Value.int .i64 v):=by
    generalize aL l s=ps
    induction ps with
    | nil=>rfl
    | cons a t ih=>rw[kz7,ih];rfl
   gi_wp2
   refine⟨by simp,.inl ⟨_,_,rfl,run_takeDeferred k,?_⟩⟩;refine⟨_,results_tmp2 rfl _ _ _,⟨_,rfl,rm (H.of_block (w':=W.putObj D _) (by simp only[World.putObj];rw[Array.getElem?_setIfInBounds_ne (by omega)])) (by omega) (by simp[maxLen];omega) ?_ ?_⟩,hB.trans (belowK_b (w:=w) (kqb _) W D _ _ (by omega) k rfl rfl)⟩
   .rw[Fo,kzl,cN]
   intro i hi;rw[Fo,kxd,HP i hi,kqm (by rw[cN];exact hi)];simp
  case stop =>
   rintro D c d W _ _ h _;exact h.elim
 have o:=ra A l c l.length s (w.alloc (.cells #[.int .i64 s] 3)) rfl (by omega) ((HR.out.alloc (kqb _) _).more (by simp)) hs;have hn1:(d7 l s==0)=false:=by rw[kqi];exact I
 have hn2:(d7 l s != 0)=true:=by rw[kqt];exact I
 have O:=hid o;refine CallsIn.mono (R:=λe w'=>e=.returned (.tuple #[.slice none 0 0,.int .i64 (d7 l s)])/\Below w.heap.size w w') ?_ (λe w' h=>⟨λh'=>absurd h' I,λ_=>h.1,h.2⟩);clear I o;generalize d7 l s=r at *;refine callsIn_of_wp_marks func206 rfl trivial ?_ rfl;simp only[ntmps206,kjy,kq3,kxc,Nat.reduceAdd,Nat.reduceSub,kke,kkf,kkv,kkk,kz5,kzr]
 gi_wp2
 refine⟨trivial,(callsIn_wide.2 O.out).mono ?_⟩;rintro e b ⟨rfl,f⟩;rw[kqn] at f
 gi_wp2
 exact⟨_,results_tmp2 rfl _ _ _,rfl,ao f⟩
theorem sI(A:Option Addr)(l:List Bk)(c n:Nat)(s:Int)(w:World)(hn:l.length=n)(hm:n<=4294967296)(hr:RdB w w.heap.size A l)(hs : -9223372036854775808<=s/\s<=9223372036854775807):
 Calls prog 206 #[.slice A n c,.int .i64 s] w λe w'=>xW l s e w'/\Below w.heap.size w w':=
 (callsIn_wide.1 (xy A l c n s w hn hm hr hs)).mono λe w' h=>by
  obtain⟨g,f,d⟩:=h
  refine⟨?_,d⟩
  by_cases b:d7 l s=0
  .obtain ⟨v,rfl,a⟩:=g b
   exact rg b hn a
  .rw[f b]
   exact A0 rfl b
end Go.Proofs.YtpcajamacpbjcaaGreat
