/- Texts laid together: BrkC BrkI PlA PlB. -/
import Derived.Test.YtpcajamacpbjcaaGreatZKPlain
import Derived.RangeFuncNested
import Derived.RangeFuncBound
import Derived.RangeFuncCalls
import Derived.RangeFuncLeaves
import Derived.Shelf.Abstract
import Derived.Shelf.RegionOpen
import Derived.OwnWalkIn
import Derived.TacticsInMore
import Derived.LoopNIn
import Derived.LoopIn
import Derived.Deep.RegionHeld3
import Derived.OrdersIn
import Derived.Deep.DrawnRows
import Derived.Laws.EntriesVeiled
set_option maxHeartbeats 16000000
set_option maxRecDepth 100000
set_option linter.all false
namespace Go.Proofs.YtpcajamacpbjcaaGreat
open Lib (hid)
open Go.RowKit
variable {a:Act}{ops:Array Oper}{s:Int}{l:List Bk}{H k n:Nat}{P:Program}{β:Type}{w w':World}
open Go.Proofs.Tryz
theorem FD(A:Option Addr)(l:List Bk)(c n:Nat)(w:World)(hn:l.length=n)(hm:n<=9223372036854775807)(hr:RdB w w.heap.size A l):
 Calls prog 282 #[.slice A n c] w λe w'=>e=.returned (.int .i64 (bL l))/\Below w.heap.size w w':=by
 subst hn;have U:=hid hr;clear hr;by_cases h:1024<l.length
 .have I:=hid (s6 h);go_enter func282,ntmps282;go_wp2;go_ret;exact⟨by rw[I.out];rfl,kql _ _⟩
 have M:l.length<=1024:=by omega
 clear h;have d1:decide ((1024:Int)<(l.length:Int))=false:=by rw[kqh];omega
 go_enter func282,ntmps282;go_wp2_with fail;go_loopw [3,13] (λB i wr=>∃k:Nat,k<=l.length/\i=.int .i64 k/\B=.int .i64 (dr l k)/\cA l k=true/\Below w.heap.size w wr) (λ_ i _=>l.length-(intOf i).toNat)
 case atStart=>exact⟨0,kqy _,rfl,rfl,rfl,kql _ _⟩
 obtain⟨k,hk,rfl,rfl,t,d⟩:=hrel;have y:=hid t;have D:=d.size;obtain⟨J,L⟩:=ox t;clear t;by_cases s:k<l.length
 .obtain ⟨b,f,rfl,v,T,G,H,Q,R,S⟩ := U.out.at_ s;replace T := (d.cell (p := ⟨b,f+k*6,none⟩) v).trans T;replace G := (d.cell (p := ⟨b,f+k*6+1,none⟩) v).trans G;replace H := (d.cell (p := ⟨b,f+k*6+2,none⟩) v).trans H;replace Q := (d.cell (p := ⟨b,f+k*6+3,none⟩) v).trans Q;replace R := (d.cell (p := ⟨b,f+k*6+4,none⟩) v).trans R;replace S := (d.cell (p := ⟨b,f+k*6+5,none⟩) v).trans S;have E := hid (bB l k s);have o:dr l (k+1)=(gk l k).at_+(gk l k).size := rfl;rw[E.out] at o;generalize P:l[k]=x at *;have HX := hid P;clear P;obtain⟨a,xs,F,xt,xm,xn⟩ := x;dsimp only at *;have r := hid o;clear o;generalize z:dr l k=B at *;have u := hid z;clear z;have m:Hid (∀w':World,¬ ((F=1\/F=2)/\2<=xs/\xs<=2048/\xs%2=0/\128<=a/\a%2=0/\a<=2048-xs/\(k=0\/a=B))->Below w.heap.size w w'->Ending.returned (.int .i64 8)=.returned (.int .i64 (bL l))/\Below w.heap.size w w'):=
   λ_ G H=>⟨by rw[vS (yY E.out u.out G) s],H⟩
  have g:Hid (((F=1\/F=2)/\2<=xs/\xs<=2048/\xs%2=0/\128<=a/\a%2=0/\a<=2048-xs/\(k=0\/a=B))->cA l (k+1)=true):=λh=>tG E.out u.out y.out h;by_cases j:k=0
  .have K:((k:Int)==0)=true:=by rw[kqx];omega
   have q:=hid j;have O:=hid (show B=128 by rw[<-u.out,j];rfl);have C:=O.out;subst C;clear j J L;by_cases hmx:128<=a
   .have N:(if (128:Int)<a then a else 128)=a:=by split<;>omega
    go_wp2_with fail
    all_goals first
     | (go_ret;exact m.out _ (by omega) (d.alloc D _))
     | (
      go_roundw
      case rel=>exact⟨k+1,by omega,by go_num,by rw[r.out],g.out (by have:=q.out;omega),d.alloc D _⟩
      case measure=>simp[intOf];omega)
   have N:(if (128:Int)<a then a else 128)=128:=by rw[if_neg (by omega)]
   go_wp2_with fail
   all_goals (go_ret;exact m.out _ (by omega) (d.alloc D _))
  have K:((k:Int)==0)=false:=by rw[kqi];omega
  have q:=hid j;clear j;go_wp2_with fail
  all_goals first
   | (go_ret;exact m.out _ (by have:=q.out;omega) (d.alloc D _))
   | (
    go_roundw
    case rel=>exact⟨k+1,by omega,by go_num,by rw[r.out];first | go_num | (congr 1;omega),g.out (by have:=q.out;omega),d.alloc D _⟩
    case measure=>simp[intOf];omega)
 have:k=l.length:=by omega
 subst this;have I:=hid (re M y.out);go_wp2;go_ret;exact⟨by rw[I.out];rfl,d⟩
open Go.RowKit Go.Shelf
attribute [local go_sem] Oper.semAt_some
abbrev Idx (l:List Bk):={ k:Nat // k<l.length }
def lp (l:List Bk):Nat->List (Idx l)
 | 0=>[]
 | k+1=>if h:k<l.length/\aK (gk l k)=true then lp l k++[⟨k,h.1⟩] else lp l k
theorem lp_len(l:List Bk)(k:Nat):(lp l k).length<=k:=by
 induction k with
 | zero=>simp[lp]
 | succ k ih=>simp only[lp];split<;>(try simp only[kqw,kzc,kxx])<;>omega
theorem t6(h:k<l.length)(hb:aK (gk l k)=true):lp l (k+1)=lp l k++[⟨k,h⟩]:=by simp only[lp];rw[dif_pos ⟨h,hb⟩]
theorem CS(hb:aK (gk l k)=false):lp l (k+1)=lp l k:=by simp only[lp];rw[dif_neg (λh=>by rw[hb] at h;exact Bool.false_ne_true h.2)]
theorem Dz(F:Fence)(n:Nat)(hf:F.fn 283)(hro:F.round=none)(hn:1<=n)(l Bs n₀:Nat)(A:Option Addr)(bl:List Bk)(cap:Nat)(hlen:bl.length<=4294967296)(J Jx:List (Idx bl)->World->Prop)(hJ:∀s W o,J s W->J s (W.alloc o))(hY:∀pre x W,J pre W->pre.length<bl.length->YieldAt F (n-1) prog l #[.int .i64 (x.1:Int),(gk bl x.1).val] W λe t =>
  (e=.returned (.bool true)/\J (pre++[x]) t/\Below n₀ W t)\/(e=.returned (.bool false)/\Jx (pre++[x]) t))(W:World)(hn0:n₀<=W.heap.size)(hBs:W.cell? ⟨Bs,0,none⟩=some (.slice A bl.length cap))(hc:RdB W n₀ A bl)(y:J [] W):
 CallsIn F n prog 283 #[.func (.yield l) #[] #[],.pointer (some ⟨Bs,0,none⟩)] W λe t=>(∃v,e=.returned v) /\
  ((∃ys,ys=lp bl bl.length/\J ys t)\/(∃pre,(∃k,pre=lp bl k)/\Jx pre t)):=by
 have U:=hid hc;have X:=hid hY;have K:=hid hJ;clear hc hY hJ;refine callsIn_of_wp func283 rfl hf ?_ hro;simp only[ntmps283,kjr,kzc,kxx,Nat.reduceAdd,Nat.reduceSub,kkk,kkl,kk7,kkr,kz5,kz0]
 gi_wp2
 gi_loopw [7] (λi wr=>∃k:Nat,k<=bl.length/\i=.int .i64 k/\J (lp bl k) wr/\Below n₀ W wr)
  (λi _=>bl.length-(intOf i).toNat)
 case atStart=>exact⟨0,kqy _,rfl,y,kql _ _⟩
 obtain⟨k,hk,rfl,g,a⟩:=hrel;have hz:=a.size;by_cases f:k<bl.length
 .obtain ⟨b,d,rfl,r,y,G,H,I,M,O⟩:=U.out.at_ f;replace y:=(a.cell (p:=⟨b,d+k*6,none⟩) r).trans y;replace G:=(a.cell (p:=⟨b,d+k*6+1,none⟩) r).trans G;replace H:=(a.cell (p:=⟨b,d+k*6+2,none⟩) r).trans H;replace I:=(a.cell (p:=⟨b,d+k*6+3,none⟩) r).trans I;replace M:=(a.cell (p:=⟨b,d+k*6+4,none⟩) r).trans M;replace O:=(a.cell (p:=⟨b,d+k*6+5,none⟩) r).trans O;have q:=X.out (lp bl k) ⟨k,f⟩;dsimp only at q;rw[<-bB bl k f] at y G H I M O;have m:Hid (aK (gk bl k)=true->lp bl (k+1)=lp bl k++[⟨k,f⟩]):=t6 f;have w:Hid (aK (gk bl k)=false->lp bl (k+1)=lp bl k):=CS;have E:=hid q;have hpl:=lp_len bl k;clear q;generalize gk bl k=x at *;obtain⟨Q,xs,B,T,C,S⟩:=x;dsimp only at *;cases c:aK ⟨Q,xs,B,T,C,S⟩
  .have u:=hid (w.out c);by_cases j:B=1
   .have D:C=false:=by subst j;simpa [aK] using c
    subst j D;clear c
    gi_wp2
    refine⟨λ_ h=>(by cases h),?_⟩
    gi_wp2
    go_roundw
    case rel=>exact⟨k+1,by omega,by go_num,by rw[u.out];exact K.out _ _ _ g,a.alloc (by omega) _⟩
    case measure=>simp[intOf];omega
   have hkb:(B==1)=false:=by rw[kqi];exact j
   clear c j
   gi_wp2
   refine⟨λ_ h=>(by cases h),?_⟩
   gi_wp2
   go_roundw
   case rel=>exact⟨k+1,by omega,by go_num,by rw[u.out];exact K.out _ _ _ g,a.alloc (by omega) _⟩
   case measure=>simp[intOf];omega
  have L:B=1/\C=true:=by simpa [aK] using c
  obtain⟨rfl,rfl⟩:=L;obtain⟨fn,tmps,assign,body,R,V⟩:=E.out (wr.alloc (.cells #[.int .i64 Q,.int .i64 xs,.int .i64 1,.int .i64 T,.bool true,.int .u64 (S:Int)] 55)) (K.out _ _ _ g) (by omega);unfold Bk.val at R;dsimp only at R
  gi_wp2
  refine V.mono ?_;rintro e W3 (⟨rfl,N,P⟩|⟨rfl,z⟩)
  .gi_wp2
   go_roundw
   case rel=>exact⟨k+1,by omega,by go_num,by rw[m.out c];exact N,(a.alloc (by omega) _).trans P⟩
   case measure=>simp[intOf];omega
  gi_wp2
  refine kqv (results_none rfl _ _ _) rfl ?_;exact⟨⟨_,rfl⟩,.inr ⟨_,⟨k+1,(m.out c).symm⟩,z⟩⟩
 obtain rfl:k=bl.length:=by omega
 gi_wp2
 go_end0;exact⟨⟨_,rfl⟩,.inl ⟨_,rfl,g⟩⟩
theorem GK(F:Fence)(n:Nat)(h:F.fn 254)(hro:F.round=none)(A:Option Addr)(len cap:Nat)(w:World):
 CallsIn F n prog 254 #[.slice A len cap] w λe w'=>e=.returned (.func (.func 283) #[] #[.pointer (some ⟨w.heap.size,0,none⟩)])/\w'=w.alloc (.cells #[.slice A len cap] 48):=by
 refine callsIn_of_wp func254 rfl h ?_ hro;simp only[ntmps254,kjr,kzc,kxx,Nat.reduceAdd,Nat.reduceSub,kkk,kkl,kk7,kkr,kz5,kz0]
 gi_wp2
 go_ret;exact⟨rfl,rfl⟩
theorem xr(F:Fence)(n:Nat)(hf:F.fn 283)(hro:F.round=none)(hn:1<=n)(Bs n₀:Nat)(A:Option Addr)(bl:List Bk)(cap:Nat)(hlen:bl.length<=4294967296)(w:World)(hBs:Bs<w.heap.size)(hn₀:n₀<=w.heap.size)(hc:w.cell? ⟨Bs,0,none⟩=some (.slice A bl.length cap))(hI:RdB w n₀ A bl):
 SeqStopsK F n prog 283 #[.pointer (some ⟨Bs,0,none⟩)] (λx:Idx bl=>#[.int .i64 (x.1:Int),(gk bl x.1).val]) (Below n₀) (λg=>g=lp bl bl.length) (λa=>∃k,a=lp bl k) bl.length w:=λl J f W b i _ c h =>
 Dz F n hf hro hn l Bs n₀ A bl cap hlen J f (λs W o d=>i s W _ none d (kxf W o none) (λr e=>by cases e)) c W (kza hn₀ b.size) ((b.cell (p:=⟨Bs,0,none⟩) hBs).trans hc) (hI.below (b.mono hn₀)) h
attribute [local go_sem] Oper.semAt_some
theorem tI:(prog.info? 3).map (λi=>(i.zero,i.size,i.bytes))=some (some (.int .i64 0),1,8):=by kernel_rfl
def Bk.arr (b:Bk):Array Value:=#[.int .i64 b.at_,.int .i64 b.size,.int .i64 b.kind,.int .i64 b.typ,.bool b.mark,.int .u64 (b.next:Int)]
theorem ua(B:Nat)(t:TypeId)(f:β->Array Value):Own (λs W=>Bx W B t (f s)):=λs X Y row c e a =>
 Bx.grown c e (λd=>by obtain⟨o,b,g⟩:=a B d.symm;rw[show X.heap[B]? = _ from c] at b;cases b;cases g)
def so (l:List Bk):List (Idx l)->Int
 | []=>0
 | x::p=>so l p+(gk l x.1).size
theorem vZ(l:List Bk)(p:List (Idx l))(x:Idx l):so l (p++[x])=so l p+(gk l x.1).size:=by
 induction p with
 | nil=>simp[so]
 | cons y p ih=>simp only[kz0,so,ih];omega
theorem szSum_lp(hk:k<=l.length)(s:Int):s+so l (lp l k)=aI (l.take k) s:=by
 induction k with
 | zero=>simp[lp,so,aI]
 | succ k ih =>
  have:=ih (by omega);rw[gK (by omega),<-bB l k (by omega)];cases a:aK (gk l k)
  .rw[CS a,this];simp
  rw[t6 (by omega) a,vZ];simp;omega
theorem yK(h:bL l=0)(x:Idx l):2<=(gk l x.1).size/\(gk l x.1).size<=2048:=by have:=(dH _).1 (dj (cN h).2 x.2).1;omega
theorem qw(A:Option Addr)(l:List Bk)(c n:Nat)(s:Int)(w:World)(hn:l.length=n)(hm:n<=9223372036854775807)(hr:RdB w w.heap.size A l)(hs : -9223372036854775808<=s/\s<=9223372036854775807):
 Calls prog 252 #[.slice A n c,.int .i64 s] w λe w'=>e=.returned (.int .i64 (dD l s))/\Below w.heap.size w w':=by
 subst hn;have C:=hid hr;clear hr;have y:Hid (bL l≠0->dD l s=bL l):=λh=>Gw h;have o:Hid (bL l=0->s<128\/nC l<s\/s%2≠0->dD l s=2):=λh u=>Hu h u;have m:Hid (bL l=0->128<=s/\s<=nC l/\s%2=0->dD l s=0):=λh u=>yQ h u;obtain⟨sb1,sb2⟩:=hs;have r:Hid (s%2=0)/\(s%2 != 0)=false\/Hid (s%2≠0)/\(s%2 != 0)=true:=by
  by_cases h:s%2=0
  .exact .inl ⟨h,by rw[kqq];exact h⟩
  exact .inr ⟨h,by rw[kqt];exact h⟩
 have i:Hid (nC l=2048)/\l.length=0\/0<l.length:=by
  by_cases h:l.length=0
  .exact .inl ⟨by simp[Hid,nC,h],h⟩
  exact .inr (by omega)
 rcases r with⟨f,t⟩|⟨f,t⟩
 all_goals
  go_enter func252,ntmps252;go_wp2_with fail;refine (FD A l c l.length _ rfl hm C.out).mono ?_;rintro e w1 ⟨rfl,d⟩;by_cases a:bL l=0
  .have j:=hid a;rw[a];clear a;rcases i with⟨k,B⟩|z
   .have z:¬ 0<l.length:=by omega
    clear B;go_wp2_with fail
    all_goals
     go_ret
     first
      | exact⟨by rw[o.out j.out (by rw[k.out];have:=f.out;omega)];rfl,d⟩
      | exact⟨by rw[m.out j.out (by rw[k.out];have:=f.out;omega)];rfl,d⟩
   obtain⟨b,v,rfl,F,q,-⟩:=C.out.at_ z;replace q:=(d.cell (p:=⟨b,v+0*6,none⟩) F).trans q;have g:=hid (show nC l=l[0].at_ by simp only[nC,show l.length≠0 from by omega,if_false];rw[bB l 0 z]);simp only[kvi,kxd] at q;obtain⟨E,i⟩:=xq (l[0].at_);rw[i] at q;have k:=hid (show nC l=E by rw[g.out,i]);have hdd:(0:Int)<(l.length:Int):=by omega
   clear i g;go_wp2_with fail
   all_goals
    go_ret
    first
     | exact⟨by rw[o.out j.out (by rw[k.out];have:=f.out;omega)];rfl,d⟩
     | exact⟨by rw[m.out j.out (by rw[k.out];have:=f.out;omega)];rfl,d⟩
  have D:=hid (y.out a);have hn1:(bL l==0)=false:=by rw[kqi];exact a
  have hn2:(bL l != 0)=true:=by rw[kqt];exact a
  clear a;go_wp2;go_ret;exact⟨by rw[D.out];rfl,d⟩
def i9 (l:List Bk) (s:Int):List Int:=if dD l s=0 then bg l s else []
def Bu (l:List Bk) (s:Int) (e:Ending) (w':World):Prop:=∃A c,e=.returned (.tuple #[.slice A (i9 l s).length c,.int .i64 (dD l s)])/\RdI w' w'.heap.size A (i9 l s)/\(i9 l s).length<=c
theorem rK{v:Value}(h0:dD l s=0)(hn:l.length=n)(h:w'.ownsRow H 3 1 v n ((bg l s).flatMap cd)):Bu l s (.returned (.tuple #[v,.int .i64 0])) w':=by
 subst hn;have d:(i9 l s).length=l.length:=by simp[i9,h0,cI]
 have e:∃A c,v=.slice A l.length c/\l.length<=c:=by
  rcases h.2 with⟨rfl,b⟩|⟨g,cap,cur,rfl,_,_,a,_⟩
  .exact ⟨none,0,by rw[b],by omega⟩
  exact⟨_,_,rfl,a⟩
 obtain⟨A,c,rfl,a⟩:=e;refine⟨A,c,by rw[d,h0],?_,by rw[d];exact a⟩;have:=Rd.of_own h
 simpa [RdI,i9,h0] using this
theorem DU{r:Int}(hr:dD l s=r)(h0:r≠0):Bu l s (.returned (.tuple #[.slice none 0 0,.int .i64 r])) w':=by
 subst hr;have:i9 l s=[]:=by simp[i9,h0]
 exact⟨none,0,by rw[this];rfl,by rw[this];exact Rd.nil_,by rw[this];simp⟩
attribute [local go_sem] Oper.semAt_some
def ji (Q:Exit->Act->World->Prop):Exit->Act->World->Prop
 | .normal,a,w=>Q .normal a w
 | _,_,_=>False
theorem GC{l:Nat}{Q:Exit->Act->World->Prop}(hd:∀o∈ops.toList,∀c,o.op≠.defer c){i:Nat}{K:Act->World->Prop}(h:wpOp P ops (ji Q) i K a w):wpOpIn (Fence.wide.inRound l) n P ops Q i K a w:=by
 unfold wpOp at h;unfold wpOpIn;split
 .rename_i e
  simpa only[e] using h
 rename_i o ho;simp only[ho] at h;split
 .rename_i hw;simp only[hw,if_true] at h;rcases h with h|⟨_,_,_,h⟩
  .refine ⟨λ_ _=>trivial,?_⟩;have g:o∈ops.toList:=by obtain⟨hlt,b⟩:=kjx.1 ho;rw[<-b];simp
   rw[Oper.semAt_eq _ _ _ (hd o g)];unfold Oper.wp at h;generalize (execOp a.eval o).run P w=r at *;cases r with
   | ok x w' =>
    cases x<;>simp only[Oper.upon,Oper.uponIn] at h |-
    case value u=>exact h
    case skip=>exact h
    case defer d=>exact h
    case enter f args =>
     refine⟨λh=>(by cases h),CallsIn.inRound l (callsIn_wide.2 (h.mono λe w'' b=>?_))⟩;cases e with
     | returned u=>exact b
     | panicked c=>exact b.elim
     | outgrown=>obtain⟨_,_,b⟩:=b;exact b.elim
    case row row args =>
     exact⟨λh=>(by cases h),λc cs _=>(let ⟨v,w',q,s⟩:=h c cs;⟨v,w',q,stepsIn_wide.2 s⟩)⟩
   | halt x w' =>
    cases x<;>simp only[Oper.upon,Oper.uponIn] at h |-
    case panic u=>exact h.elim
  exact h.elim
 rename_i hw;simp only[hw] at h;exact⟨λ_ _=>trivial,h⟩
theorem vc{l:Nat}{md:Region.Mode}{Q:Exit->Act->World->Prop}(hd:∀o∈ops.toList,∀c,o.op≠.defer c):
 ∀(fuel:Nat) (listed:Array Bool) (a:Act) (w:World),wpAny P md ops (ji Q) fuel listed a w->wpAnyIn (Fence.wide.inRound l) n P md ops Q fuel listed a w
 | 0,_,_,_,h=>h
 | fuel+1,_,_,_,h=>⟨h.1,λi b=>wpOpIn_mono (λd w' e=>vc hd fuel _ d w' e) (GC hd (h.2 i b))⟩
theorem rG{l:Nat}{id:Nat}{Q:Exit->Act->World->Prop}(S:World->Prop)(hm:P.follows .mixedOrders=true)(hd:∀o∈ops.toList,∀c,o.op≠.defer c)(h:wpAnyH P .any ops (ji Q) S ops.size (Array.replicate ops.size false) a w.drew):(Code.region id ops true).wpIn (Fence.wide.inRound l) n P Q a w:=
 wpIn_region_any hm (vc hd _ _ _ _ (wpAny_of_held _ _ _ _ h))
theorem GZ(u m:Int)(g:Nat)(w:World)(h1:0<=u)(h2:u<=2048)(h3:0<=m)(h4:m<=2200000)(hc:w.cell? ⟨g,0,none⟩=some (.int .i64 m))(hf:w.frozen? ⟨g,0,none⟩=false):
 Calls prog 253 #[.int .i64 u,.pointer (some ⟨g,0,none⟩)] w λe w'=>e=.returned (.int .i64 m)/\w.setCell ⟨g,0,none⟩ (.int .i64 (m+u))=w':=by go_enter func253,ntmps253;go_wp2;go_ret;exact⟨Gi (by omega),rfl⟩
theorem zI(B:Nat)(t:TypeId)(n:Nat)(f:β->Nat->Value):Own (λs W=>W.rowIs B t n (f s)):=λs X Y row i j a=>by obtain⟨c,b,e,g⟩:=i;refine⟨c,(j.block B (kjx.1 b).1 (λh=>?_)).trans b,e,g⟩;obtain⟨o,d,k⟩:=a B h.symm;rw[b] at d;cases d;cases k
def fK (l:List Bk) (s:Int) (pre:List (Idx l)):Int × (Nat->Int):=
 pre.foldl (λst x=>(st.1+(gk l x.1).size,λj=>if j=x.1 then st.1 else st.2 j)) (s,λ_=>0)
theorem jr(l:List Bk)(s:Int)(pre:List (Idx l))(x:Idx l):
 fK l s (pre++[x])=((fK l s pre).1+(gk l x.1).size,λj=>if j=x.1 then (fK l s pre).1 else (fK l s pre).2 j):=by simp[fK]
theorem D8(h:bL l=0)(s:Int)(a:List (Idx l)):s<=(fK l s a).1/\(fK l s a).1<=s+2048*a.length:=by
 have d:∀(n:Nat) (a:List (Idx l)),a.length=n->s<=(fK l s a).1/\(fK l s a).1<=s+2048*a.length:=by
  intro n
  induction n with
  | zero=>intro a c;rw[kx0 c];simp[fK]
  | succ n ih =>
   intro a c;have b:a≠[]:=by intro e;subst e;simp at c
   obtain⟨q,x,rfl⟩:∃q x,a=q++[x]:=⟨a.dropLast,a.getLast b,(List.dropLast_concat_getLast b).symm⟩;have:=ih q (by simpa using c);have hx:=yK h x;rw[jr];simp only[kqw,kzc,kxx];omega
 exact d _ a rfl
theorem Dx(s:Int)(i:k<=l.length):(fK l s (lp l k)).1=aI (l.take k) s/\∀j,j<k->(fK l s (lp l k)).2 j=(bg (l.take k) s)[j]?.getD 0:=by
 induction k with
 | zero=>simp[lp,fK,aI]
 | succ k ih =>
  obtain⟨c,g⟩:=ih (by omega);have f:(bg (l.take k) s).length=k:=by rw[cI,kq6];omega
  have a:∀ {m:Nat},k<=m->m<=l.length->(fK l s (lp l k)).2 m=0:=by
   intro m d _;have:∀(k:Nat),k<=l.length->∀m,k<=m->(fK l s (lp l k)).2 m=0:=by
    intro k i
    induction k with
    | zero=>intro m _;rfl
    | succ k ih =>
     intro m d;cases b:aK (gk l k)
     .rw[CS b];exact ih (by omega) m (by omega)
     rw[t6 (by omega) b,jr];dsimp only;rw[if_neg (by omega)];exact ih (by omega) m (by omega)
   exact this k (by omega) m d
  rw[gK (by omega),kH (by omega),<-bB l k (by omega)];cases b:aK (gk l k)
  .rw[CS b];refine⟨by simp[c],λj h=>?_⟩;by_cases e:j=k
   .subst e;rw[a (kqg _) (by omega),kxj (by omega),f];simp
   rw[kj2 (by omega)];exact g j (by omega)
  rw[t6 (by omega) b,jr];refine⟨by simp[c],λj h=>?_⟩;dsimp only;by_cases e:j=k
  .subst e;rw[if_pos rfl,kxj (by omega),f];simp[c]
  rw[if_neg e,kj2 (by omega)];exact g j (by omega)
theorem qZ{B:Nat}{t:TypeId}{f:Nat->Value}{xs:List Value}(h:w.rowIs B t n f)(hB:H<=B)(hm:n<=maxLen)(hl:xs.length=n)(hx:∀i,i<n->xs[i]? = some (f i)):
 w.ownsRow H t 1 (.slice (some ⟨B,0,none⟩) n n) n xs:=by
 obtain⟨c,d,h1,b⟩:=h;refine⟨by omega,.inr ⟨B,n,c,rfl,hB,d,kqg _,hm,by omega,?_⟩⟩;apply kz7;intro i;by_cases a:i<n
 .rw[List.getElem?_take_of_lt (by omega),hx i a,<-b i a];simp
 rw[kzd (by rw[kq6];simp;omega),kzd (by omega)]
theorem yT(A:Option Addr)(l:List Bk)(c n:Nat)(s:Int)(w:World)(hn:l.length=n)(hm:n<=4294967296)(hr:RdB w w.heap.size A l)(hs : -9223372036854775808<=s/\s<=9223372036854775807):
 CallsIn Fence.wide 6 prog 206 #[.slice A n c,.int .i64 s] w λe w' =>
  (dD l s=0->∃v,e=.returned (.tuple #[v,.int .i64 0])/\w'.ownsRow w.heap.size 3 1 v n ((bg l s).flatMap cd))/\(dD l s≠0->e=.returned (.tuple #[.slice none 0 0,.int .i64 (dD l s)]))/\Below w.heap.size w w':=by
 subst hn;have HR:=hid hr;clear hr;by_cases I:dD l s=0
 .obtain ⟨E,hs1,hs2,_⟩:=dT I;have hlen:=(cN E).1;have hmb:=yx E;have hmk:=run_make_row' (P:=prog) 42 3 (.int .i64 0) 8 underlying42 tI rfl .i64 .i64 l.length (by omega) (by omega);have o:=qw A l c l.length s (w.alloc (.cells #[.int .i64 s] 3)) rfl (by omega) ((HR.out.alloc (kqg _) _).more (by simp)) hs;rw[I] at o;have M:=hid o;have Je:=hid E;refine CallsIn.mono (R:=λe w'=>(∃v,e=.returned (.tuple #[v,.int .i64 0])/\w'.ownsRow w.heap.size 3 1 v l.length ((bg l s).flatMap cd))/\Below w.heap.size w w') ?_ (λe w' h=>⟨λ_=>h.1,λh'=>absurd I h',h.2⟩);clear I o E;refine callsIn_of_wp_marks func206 rfl trivial ?_ rfl;simp only[ntmps206,kjr,kzc,kxx,Nat.reduceAdd,Nat.reduceSub,kkk,kkl,kk7,kkr,kz5,kz0]
  gi_wp2
  refine⟨trivial,(callsIn_wide.2 M.out).mono ?_⟩;rintro e b ⟨rfl,f⟩;rw[kqn] at f;have b0:=Bx.of_new f;have S:=au f;have Jp:=S.size
  gi_wp2
  refine⟨trivial,(GK Fence.wide _ trivial rfl A l.length c _).mono ?_⟩;rintro e w2 ⟨rfl,rfl⟩;have r0:((b.alloc (.cells #[.func (.func 253) #[] #[.pointer (some ⟨w.heap.size,0,none⟩)]] 272)).alloc (.cells (madeCells #[.int .i64 0] l.length) 3)).rowIs (b.heap.size+1) 3 l.length (λ_=>.int .i64 0):=by have:=World.rowIs_made (b.alloc (.cells #[.func (.func 253) #[] #[.pointer (some ⟨w.heap.size,0,none⟩)]] 272)) (.int .i64 0) l.length 3;rwa [kqn] at this
  have f0:=Bx.new b 272 #[.func (.func 253) #[] #[.pointer (some ⟨w.heap.size,0,none⟩)]];obtain⟨T,C⟩:∃T,b.alloc (.cells #[.func (.func 253) #[] #[.pointer (some ⟨w.heap.size,0,none⟩)]] 272)=T:=⟨_,rfl⟩;have ba:Bx T w.heap.size 3 #[.int .i64 s]:=by rw[<-C];exact b0.alloc _
  have Eq:Below w.heap.size w T:=by rw[<-C];exact S.alloc Jp _
  have Jd:T.heap.size=b.heap.size+1:=by rw[<-C];simp
  rw[C] at r0 f0 |-;clear C b0 S;obtain⟨O,H⟩:=xq (madeCells #[Value.int .i64 0] l.length);rw[H] at r0 |-;have bb:=ba.alloc (.cells O 3);have fb:=f0.alloc (.cells O 3);have L:=Eq.alloc (by omega) (.cells O 3);have g:(T.alloc (.cells O 3)).heap.size=b.heap.size+2:=by simp[Jd]
  obtain⟨wb,Jf⟩:=xq (T.alloc (.cells O 3));rw[Jf] at r0 bb fb L g |-;clear Jf H ba f0 Eq Jd;have ob:=Bx.new wb 42 #[.slice (some ⟨b.heap.size+1,0,none⟩) l.length l.length];have b2:=(bb.alloc (.cells #[.slice (some ⟨b.heap.size+1,0,none⟩) l.length l.length] 42)).alloc (.cells #[.slice A l.length c] 48);have f2:=(fb.alloc (.cells #[.slice (some ⟨b.heap.size+1,0,none⟩) l.length l.length] 42)).alloc (.cells #[.slice A l.length c] 48);have r2:=(r0.alloc (.cells #[.slice (some ⟨b.heap.size+1,0,none⟩) l.length l.length] 42)).alloc (.cells #[.slice A l.length c] 48);have o2:=ob.alloc (.cells #[.slice A l.length c] 48);have Q:=(L.alloc (by omega) (.cells #[.slice (some ⟨b.heap.size+1,0,none⟩) l.length l.length] 42)).alloc (by simp;omega) (.cells #[.slice A l.length c] 48);have c1:=Bx.new (wb.alloc (.cells #[.slice (some ⟨b.heap.size+1,0,none⟩) l.length l.length] 42)) 48 #[.slice A l.length c];have Jm:((wb.alloc (.cells #[.slice (some ⟨b.heap.size+1,0,none⟩) l.length l.length] 42)).alloc (.cells #[.slice A l.length c] 48)).heap.size=b.heap.size+4:=by simp[g]
  rw[g] at o2;rw[kqn,g] at c1;obtain⟨W0,Ji⟩:∃W0,(wb.alloc (.cells #[.slice (some ⟨b.heap.size+1,0,none⟩) l.length l.length] 42)).alloc (.cells #[.slice A l.length c] 48)=W0:=⟨_,rfl⟩;rw[Ji] at b2 f2 r2 o2 Q c1 Jm |-;clear Ji r0 bb fb L ob
  gi_wp2
  refine wpIn_rangeFunc_ownH rfl (show 1<=6 by omega) (gf:=283) (lb:=#[.pointer (some ⟨b.heap.size+2+1,0,none⟩)]) rfl trivial (enters_of func283 (by kernel_rfl) rfl)
   (xr Fence.wide 5 trivial rfl (by omega) (b.heap.size+2+1) w.heap.size A l c (by omega) W0 (by omega) (by omega) (c1.c1).1 ((HR.out).below Q)) belowK_t (belowK_b (by omega)) (kql _ _) (λ_=>rfl)
   (λd W=>(Bx W w.heap.size 3 #[.int .i64 (fK l s d).1]/\Bx W b.heap.size 272 #[.func (.func 253) #[] #[.pointer (some ⟨w.heap.size,0,none⟩)]]/\Bx W (b.heap.size+2) 42 #[.slice (some ⟨b.heap.size+1,0,none⟩) l.length l.length]/\W.rowIs (b.heap.size+1) 3 l.length (λj=>.int .i64 ((fK l s d).2 j)))/\Below w.heap.size w W)
   (λ_ _ _=>False)
   (OwnFrom.and (OwnFrom.and (Own.from (ua _ _ _) _) (OwnFrom.and (Own.from (ua _ _ _) _) (OwnFrom.and (Own.from (ua _ _ _) _) (Own.from (zI _ _ _ _) _)))) (ownFrom_below (kqg _) (by omega)))
   (λ_ _ _ _ _ hs _ _=>hs)
   ⟨⟨b2,f2,o2,r2⟩,Q⟩
   (λx a' W=>∃Bx',b.heap.size+2<Bx'/\Bx W Bx' 55 (gk l x.1).arr/\a'={ tmps:=#[.slice A l.length c,.int .i64 s,undef,.pointer (some ⟨w.heap.size,0,none⟩),.slice none 0 0,.int .i64 0,.int .i64 0,.pointer (some ⟨b.heap.size,0,none⟩),.pointer (some ⟨b.heap.size+1+1,0,none⟩),.int .i64 (x.1:Int),.pointer (some ⟨Bx',0,none⟩),.slice A l.length c,.int .i64 s,.int .i64 0,.int .i64 0,.bool false,undef,.func (.func 253) #[] #[.pointer (some ⟨w.heap.size,0,none⟩)],.slice A l.length c,.int .i64 (l.length:Int),.slice (some ⟨b.heap.size+1,0,none⟩) l.length l.length,.slice A l.length c,.func (.func 283) #[] #[.pointer (some ⟨b.heap.size+2+1,0,none⟩)],.int .i64 (x.1:Int),(gk l x.1).val,undef,undef,undef,undef,undef,undef,undef,undef],defers:=[] })
   (λx a' _ X Y row hs hg hr=>by obtain⟨B',h1,h2,h3⟩:=hs;exact⟨B',h1,ua B' 55 (λ(_:Unit)=>(gk l x.1).arr) () X Y row h2 hg (λr e=>(hr r e).2),h3⟩)
   ?assign ?body ?done ?stop
  case assign =>
   rintro l' d x W K ⟨⟨bS,bF,G,F⟩,hB⟩ k;have hz:=hB.size;obtain⟨y,hy⟩:=xq (gk l x.1);rw[hy] at k |-;obtain⟨xa,xs,xk,xt,xm,xn⟩:=y;unfold Bk.arr Bk.val at k;unfold Bk.val;dsimp only at k |-;have HK:=hid k;clear k hy
   gi_wp2
   exact HK.out _ _ ((KeepsOthers.alloc _ _).from _) ((kql _ W).alloc hz _) ⟨⟨bS.alloc _,bF.alloc _,G.alloc _,F.alloc _⟩,hB.alloc hz _⟩ ⟨W.heap.size,G.lt,Bx.new W _ _,rfl⟩
  case body =>
   rintro l' d x a' W hl ⟨r,hr⟩ ⟨⟨bS,bF,G,F⟩,hB⟩ ⟨B',hB',bX,rfl⟩ Jn;have g:=D8 Je.out s d;have Jc:=yK Je.out x;have Jh:=hid (jr l s d x);have hxl:=x.2;have g1:W.cell? ⟨B',1,none⟩=some (.int .i64 (gk l x.1).size):=bX.cell 1;obtain⟨s1,s2,s3⟩:=bS.c1;obtain⟨t1,t2,t3⟩:=bF.c1;obtain⟨o1,o2,o3⟩:=G.c1;have r1:=F.frozen x.1;have U:prog.follows .mixedOrders=true:=by kernel_rfl
   obtain⟨q,hq⟩:∃q,W.cell? ⟨b.heap.size+1,x.1,none⟩=some (.int .i64 q):=⟨_,F.cell x.2⟩;have hxi:(x.1:Int)<(l.length:Int):=by omega
   have hx0:(0:Int)<=(x.1:Int):=by omega
   have hxn:((x.1:Int)).toNat=x.1:=by omega
   obtain⟨u,hu⟩:=xq ((gk l x.1).size);obtain⟨m,J⟩:=xq ((fK l s d).1);rw[hu] at g1 Jc;rw[J] at s1 g;have Jk:m<=2200000:=by omega
   have Jj:0<=m:=by omega
   obtain⟨hx1,Jl⟩:=Jc;have bS2:=hid bS;have bR2:=hid F;have bF2:=hid bF;have bO2:=hid G;have HU:=hid hu;have Jg:=hid J;clear g bS F bF G hu J Jn
   gi_wp2
   have B:(λX:World=>X.cell? ⟨b.heap.size+1+1,0,none⟩=some (.slice (some ⟨b.heap.size+1,0,none⟩) l.length l.length)/\X.cell? ⟨b.heap.size,0,none⟩=some (.func (.func 253) #[] #[.pointer (some ⟨w.heap.size,0,none⟩)])/\X.cell? ⟨B',1,none⟩=some (.int .i64 u)) W.drew:=⟨o1,t1,g1⟩;refine rG (λX:World=>X.cell? ⟨b.heap.size+1+1,0,none⟩=some (.slice (some ⟨b.heap.size+1,0,none⟩) l.length l.length)/\X.cell? ⟨b.heap.size,0,none⟩=some (.func (.func 253) #[] #[.pointer (some ⟨w.heap.size,0,none⟩)])/\X.cell? ⟨B',1,none⟩=some (.int .i64 u)) U (by simp) ?_;show wpAnyH _ _ _ _ _ 8 #[false,false,false,false,false,false,false,false] _ _;refine kkt (i:=0) (v:=.slice (some ⟨b.heap.size+1,0,none⟩) l.length l.length) rfl (by kernel_rfl) (by kernel_rfl) (by kernel_rfl) (λ_ _ _ h=>h) (Or.inl ⟨by rfl,?_⟩) B ?_
   .intro X z;obtain⟨q1,q2,q3⟩:=z;go_simp
   dsimp only[Act.put,kqa,kqf,kqd];refine kkt (i:=1) (v:=.int .i64 (x.1:Int)) rfl (by kernel_rfl) (by kernel_rfl) (by kernel_rfl) (λ_ _ _ h=>h) (Or.inl ⟨by rfl,?_⟩) B ?_
   .intro X z;obtain⟨q1,q2,q3⟩:=z;go_simp
   dsimp only[Act.put,kqa,kqf,kqd];refine kkt (i:=2) (v:=.func (.func 253) #[] #[.pointer (some ⟨w.heap.size,0,none⟩)]) rfl (by kernel_rfl) (by kernel_rfl) (by kernel_rfl) (λ_ _ _ h=>h) (Or.inl ⟨by rfl,?_⟩) B ?_
   .intro X z;obtain⟨q1,q2,q3⟩:=z;go_simp
   dsimp only[Act.put,kqa,kqf,kqd];refine kkt (i:=3) (v:=.pointer (some ⟨B',1,none⟩)) rfl (by kernel_rfl) (by kernel_rfl) (by kernel_rfl) (λ_ _ _ h=>h) (Or.inl ⟨by rfl,?_⟩) B ?_
   .intro X z;obtain⟨q1,q2,q3⟩:=z;go_simp
   dsimp only[Act.put,kqa,kqf,kqd];refine kkt (i:=4) (v:=.int .i64 u) rfl (by kernel_rfl) (by kernel_rfl) (by kernel_rfl) (λ_ _ _ h=>h) (Or.inl ⟨by rfl,?_⟩) B ?_
   .intro X z;obtain⟨q1,q2,q3⟩:=z;go_simp
   dsimp only[Act.put,kqa,kqf,kqd];refine kxr (rs:=[5]) (by kernel_rfl) (by simp) ?_;refine AllReadyH.cons rfl (λK k=>?_) AllReadyH.nil;go_simp;refine (GZ u m w.heap.size W.drew (by omega) Jl Jj Jk s1 s2).mono ?_;rintro e w' ⟨rfl,rfl⟩;go_simp;have Ja:=f.size;rw[kqn] at Ja;have ne:∀(p:Addr),p.block≠w.heap.size->((W.setCell ⟨w.heap.size,0,none⟩ (.int .i64 (m+u))).drew).cell? p=W.cell? p:=λp hp=>kko W _ _ _ (by rintro rfl;exact hp rfl);refine k.out _ _ ⟨(ne _ (by dsimp only;omega)).trans o1,(ne _ (by dsimp only;omega)).trans t1,(ne _ (by dsimp only;omega)).trans g1⟩ (λZ=>?_);clear k K;have Jo:=(ne ⟨b.heap.size+1,x.1,none⟩ (by dsimp only;omega)).trans hq;have r1':((W.setCell ⟨w.heap.size,0,none⟩ (.int .i64 (m+u))).drew).frozen? ⟨b.heap.size+1,x.1,none⟩=false:=by show (W.setCell _ _).frozen? _=_;rw[World.frozen?_setCell];exact r1
   have NE:=hid ne;clear ne;obtain⟨V,hV⟩:∃V,(W.setCell ⟨w.heap.size,0,none⟩ (.int .i64 (m+u))).drew=V:=⟨_,rfl⟩;have HV:=hid hV;rw[hV] at Jo r1' Z |-;clear hV;refine kkt (i:=6) (v:=.pointer (some ⟨b.heap.size+1,x.1,none⟩)) rfl (by kernel_rfl) (by kernel_rfl) (by kernel_rfl) (λ_ _ _ h=>h) (Or.inl ⟨by rfl,?_⟩) Z ?_
   .intro X z;obtain⟨q1,q2,q3⟩:=z;go_simp
   dsimp only[Act.put,kqa,kqf,kqd];refine kxr (rs:=[7]) (by kernel_rfl) (by simp) ?_;refine AllReadyH.cons rfl (λK k=>?_) AllReadyH.nil;go_simp;obtain⟨p1,p2,p3⟩:=Z;have N:∀(p:Addr),p.block≠b.heap.size+1->(V.setCell ⟨b.heap.size+1,x.1,none⟩ (.int .i64 m)).cell? p=V.cell? p:=λp hp=>kko _ _ _ _ (by rintro rfl;exact hp rfl);refine k.out _ _ ⟨(N _ (by dsimp only;omega)).trans p1,(N _ (by dsimp only;omega)).trans p2,(N _ (by dsimp only;omega)).trans p3⟩ (λHS2=>?_);clear k K;refine kx3 (by kernel_rfl) ?_ _;dsimp only[ji]
   gi_wp2
   have hV:=HV.out;subst hV;have E1:(fK l s (d++[x])).1=m+u:=by rw[Jh.out];show (fK l s d).1+_=_;rw[Jg.out,HU.out]
   have E2:∀j,(fK l s (d++[x])).2 j=if j=x.1 then m else (fK l s d).2 j:=λj=>by rw[Jh.out];show (if j=x.1 then (fK l s d).1 else _)=_;rw[Jg.out]
   have k1:KeepsOthers W ((W.setCell ⟨w.heap.size,0,none⟩ (.int .i64 (m+u))).drew):=(KeepsOthers.setCell _ _ _).trans (KeepsOthers.drew _);have b1:Below w.heap.size W ((W.setCell ⟨w.heap.size,0,none⟩ (.int .i64 (m+u))).drew):=((kql _ W).setCell (p:=⟨w.heap.size,0,none⟩) (kqg _) _).drew;refine⟨(k1.trans (KeepsOthers.setCell _ _ _)).from _,b1.setCell (p:=⟨b.heap.size+1,x.1,none⟩) (by dsimp only;omega) _,⟨?_,?_,?_,?_⟩,(hB.trans (b1.mono (kqg _))).setCell (p:=⟨b.heap.size+1,x.1,none⟩) (by dsimp only;omega) _⟩
   .rw[E1];exact Bx.far (bS2.out.set_ 0 _) (p:=⟨b.heap.size+1,x.1,none⟩) (by dsimp only;omega) _
   .exact Bx.far (bF2.out.far (p:=⟨w.heap.size,0,none⟩) (by dsimp only;omega) _) (p:=⟨b.heap.size+1,x.1,none⟩) (by dsimp only;omega) _
   .exact Bx.far (bO2.out.far (p:=⟨w.heap.size,0,none⟩) (by dsimp only;omega) _) (p:=⟨b.heap.size+1,x.1,none⟩) (by dsimp only;omega) _
   refine World.rowIs.congr (World.rowIs.set (w:=(W.setCell ⟨w.heap.size,0,none⟩ (.int .i64 (m+u))).drew) (bR2.out.setOther (a:=⟨w.heap.size,0,none⟩) (by dsimp only;omega) _) x.1 (.int .i64 m)) (λj hj=>?_);rw[E2];by_cases e:j=x.1
   .rw[if_pos e,if_pos e]
   rw[if_neg e,if_neg e]
  case done =>
   rintro D zs W hD rfl ⟨⟨bS,bF,G,F⟩,hB⟩ k;obtain⟨o1,o2,o3⟩:=G.c1;have HP:=(Dx (l:=l) s (kqg l.length)).2;rw[kz2] at HP;have Jb:(bg l s).flatMap cd=(bg l s).map (λv=>Value.int .i64 v):=by
    generalize bg l s=ps
    induction ps with
    | nil=>rfl
    | cons a t ih=>rw[kzy,ih];rfl
   gi_wp2
   refine⟨by simp,.inl ⟨_,_,rfl,run_takeDeferred k,?_⟩⟩;refine⟨_,results_tmp2 rfl _ _ _,⟨_,rfl,qZ (F.of_block (w':=W.putObj D _) (by simp only[World.putObj];rw[Array.getElem?_setIfInBounds_ne (by omega)])) (by omega) (by simp[maxLen];omega) ?_ ?_⟩,hB.trans (belowK_b (w:=w) (kqg _) W D _ _ (by omega) k rfl rfl)⟩
   .rw[Jb,kqs,cI]
   intro i hi;rw[Jb,kzh,HP i hi,kqj (by rw[cI];exact hi)];simp
  case stop =>
   rintro D c d W _ _ h _;exact h.elim
 have o:=qw A l c l.length s (w.alloc (.cells #[.int .i64 s] 3)) rfl (by omega) ((HR.out.alloc (kqg _) _).more (by simp)) hs;have hn1:(dD l s==0)=false:=by rw[kqi];exact I
 have hn2:(dD l s != 0)=true:=by rw[kqt];exact I
 have M:=hid o;refine CallsIn.mono (R:=λe w'=>e=.returned (.tuple #[.slice none 0 0,.int .i64 (dD l s)])/\Below w.heap.size w w') ?_ (λe w' h=>⟨λh'=>absurd h' I,λ_=>h.1,h.2⟩);clear I o;generalize dD l s=r at *;refine callsIn_of_wp_marks func206 rfl trivial ?_ rfl;simp only[ntmps206,kjr,kzc,kxx,Nat.reduceAdd,Nat.reduceSub,kkk,kkl,kk7,kkr,kz5,kz0]
 gi_wp2
 refine⟨trivial,(callsIn_wide.2 M.out).mono ?_⟩;rintro e b ⟨rfl,f⟩;rw[kqn] at f
 gi_wp2
 exact⟨_,results_tmp2 rfl _ _ _,rfl,au f⟩
theorem ub(A:Option Addr)(l:List Bk)(c n:Nat)(s:Int)(w:World)(hn:l.length=n)(hm:n<=4294967296)(hr:RdB w w.heap.size A l)(hs : -9223372036854775808<=s/\s<=9223372036854775807):
 Calls prog 206 #[.slice A n c,.int .i64 s] w λe w'=>Bu l s e w'/\Below w.heap.size w w':=
 (callsIn_wide.1 (yT A l c n s w hn hm hr hs)).mono λe w' h=>by
  obtain⟨d,f,g⟩:=h
  refine⟨?_,g⟩
  by_cases b:dD l s=0
  .obtain ⟨v,rfl,a⟩:=d b
   exact rK b hn a
  .rw[f b]
   exact DU rfl b
end Go.Proofs.YtpcajamacpbjcaaGreat
