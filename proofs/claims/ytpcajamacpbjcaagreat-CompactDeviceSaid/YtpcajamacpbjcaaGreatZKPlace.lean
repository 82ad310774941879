/- Texts laid together: BrkC BrkI PlA PlB. -/
import Derived.Test.YtpcajamacpbjcaaGreatZKPlain
import Derived.RangeFuncNested
import Derived.RangeFuncBound
import Derived.RangeFuncCalls
import Derived.RangeFuncLeaves
import Derived.Shelf.Abstract
import Derived.Shelf.RegionOpen
import Derived.OwnWalkIn
import Derived.TacticsInMore
import Derived.LoopNIn
import Derived.LoopIn
import Derived.Deep.RegionHeld3
import Derived.OrdersIn
import Derived.Deep.DrawnRows
import Derived.Laws.EntriesVeiled
set_option maxHeartbeats 16000000
set_option maxRecDepth 100000
set_option linter.all false
namespace Go.Proofs.YtpcajamacpbjcaaGreat
open Lib (hid)
open Go.RowKit
variable {a:Act}{ops:Array Oper}{s:Int}{l:List Bk}{H k n:Nat}{P:Program}{β:Type}{w w':World}
open Go.Proofs.Tryz
theorem Jt(A:Option Addr)(l:List Bk)(c n:Nat)(w:World)(hn:l.length=n)(hm:n<=9223372036854775807)(hr:RdB w w.heap.size A l):
 Calls prog 282 #[.slice A n c] w λe w'=>e=.returned (.int .i64 (cn l))/\Below w.heap.size w w':=by
 subst hn;have U:=hid hr;clear hr;by_cases h:1024<l.length
 .have O:=hid (tu h);go_enter func282,ntmps282;go_wp2;go_ret;exact⟨by rw[O.out];rfl,kqk _ _⟩
 have J:l.length<=1024:=by omega
 clear h;have d1:decide ((1024:Int)<(l.length:Int))=false:=by rw[kqc];omega
 go_enter func282,ntmps282;go_wp2_with fail;go_loopw [3,13] (λD i wr=>∃k:Nat,k<=l.length/\i=.int .i64 k/\D=.int .i64 (dR l k)/\db l k=true/\Below w.heap.size w wr) (λ_ i _=>l.length-(intOf i).toNat)
 case atStart=>exact⟨0,kqy _,rfl,rfl,rfl,kqk _ _⟩
 obtain⟨k,hk,rfl,rfl,s,f⟩:=hrel;have B:=hid s;have C:=f.size;obtain⟨K,I⟩:=px s;clear s;by_cases t:k<l.length
 .obtain ⟨b,d,rfl,v,Q,F,H,S,T,R⟩ := U.out.at_ t;replace Q := (f.cell (p := ⟨b,d+k*6,none⟩) v).trans Q;replace F := (f.cell (p := ⟨b,d+k*6+1,none⟩) v).trans F;replace H := (f.cell (p := ⟨b,d+k*6+2,none⟩) v).trans H;replace S := (f.cell (p := ⟨b,d+k*6+3,none⟩) v).trans S;replace T := (f.cell (p := ⟨b,d+k*6+4,none⟩) v).trans T;replace R := (f.cell (p := ⟨b,d+k*6+5,none⟩) v).trans R;have E := hid (bP l k t);have o:dR l (k+1)=(gk l k).at_+(gk l k).size := rfl;rw[E.out] at o;generalize P:l[k]=x at *;have HX := hid P;clear P;obtain⟨a,xs,G,xt,xm,xn⟩ := x;dsimp only at *;have r := hid o;clear o;generalize y:dR l k=D at *;have u := hid y;clear y;have j:Hid (∀w':World,¬ ((G=1\/G=2)/\2<=xs/\xs<=2048/\xs%2=0/\128<=a/\a%2=0/\a<=2048-xs/\(k=0\/a=D))->Below w.heap.size w w'->Ending.returned (.int .i64 8)=.returned (.int .i64 (cn l))/\Below w.heap.size w w'):=
   λ_ F H=>⟨by rw[wi (Ah E.out u.out F) t],H⟩
  have g:Hid (((G=1\/G=2)/\2<=xs/\xs<=2048/\xs%2=0/\128<=a/\a%2=0/\a<=2048-xs/\(k=0\/a=D))->db l (k+1)=true):=λh=>un E.out u.out B.out h;by_cases m:k=0
  .have M:((k:Int)==0)=true:=by rw[kqw];omega
   have q:=hid m;have N:=hid (show D=128 by rw[<-u.out,m];rfl);have z:=N.out;subst z;clear m K I;by_cases hmx:128<=a
   .have L:(if (128:Int)<a then a else 128)=a:=by split<;>omega
    go_wp2_with fail
    all_goals first
     | (go_ret;exact j.out _ (by omega) (f.alloc C _))
     | (
      go_roundw
      case rel=>exact⟨k+1,by omega,by go_num,by rw[r.out],g.out (by have:=q.out;omega),f.alloc C _⟩
      case measure=>simp[intOf];omega)
   have L:(if (128:Int)<a then a else 128)=128:=by rw[if_neg (by omega)]
   go_wp2_with fail
   all_goals (go_ret;exact j.out _ (by omega) (f.alloc C _))
  have M:((k:Int)==0)=false:=by rw[kqi];omega
  have q:=hid m;clear m;go_wp2_with fail
  all_goals first
   | (go_ret;exact j.out _ (by have:=q.out;omega) (f.alloc C _))
   | (
    go_roundw
    case rel=>exact⟨k+1,by omega,by go_num,by rw[r.out];first | go_num | (congr 1;omega),g.out (by have:=q.out;omega),f.alloc C _⟩
    case measure=>simp[intOf];omega)
 have:k=l.length:=by omega
 subst this;have O:=hid (sM J B.out);go_wp2;go_ret;exact⟨by rw[O.out];rfl,f⟩
open Go.RowKit Go.Shelf
attribute [local go_sem] Oper.semAt_some
abbrev Idx (l:List Bk):={ k:Nat // k<l.length }
def lp (l:List Bk):Nat->List (Idx l)
 | 0=>[]
 | k+1=>if h:k<l.length/\a8 (gk l k)=true then lp l k++[⟨k,h.1⟩] else lp l k
theorem lp_len(l:List Bk)(k:Nat):(lp l k).length<=k:=by
 induction k with
 | zero=>simp[lp]
 | succ k ih=>simp only[lp];split<;>(try simp only[kqu,kq0,kxb])<;>omega
theorem vp(h:k<l.length)(hb:a8 (gk l k)=true):lp l (k+1)=lp l k++[⟨k,h⟩]:=by simp only[lp];rw[dif_pos ⟨h,hb⟩]
theorem DK(hb:a8 (gk l k)=false):lp l (k+1)=lp l k:=by simp only[lp];rw[dif_neg (λh=>by rw[hb] at h;exact Bool.false_ne_true h.2)]
theorem EQ(F:Fence)(n:Nat)(hf:F.fn 283)(hro:F.round=none)(hn:1<=n)(l Bs n₀:Nat)(A:Option Addr)(bl:List Bk)(cap:Nat)(hlen:bl.length<=4294967296)(J Jx:List (Idx bl)->World->Prop)(hJ:∀s W o,J s W->J s (W.alloc o))(hY:∀pre x W,J pre W->pre.length<bl.length->YieldAt F (n-1) prog l #[.int .i64 (x.1:Int),(gk bl x.1).val] W λe t =>
  (e=.returned (.bool true)/\J (pre++[x]) t/\Below n₀ W t)\/(e=.returned (.bool false)/\Jx (pre++[x]) t))(W:World)(hn0:n₀<=W.heap.size)(hBs:W.cell? ⟨Bs,0,none⟩=some (.slice A bl.length cap))(hc:RdB W n₀ A bl)(y:J [] W):
 CallsIn F n prog 283 #[.func (.yield l) #[] #[],.pointer (some ⟨Bs,0,none⟩)] W λe t=>(∃v,e=.returned v) /\
  ((∃ys,ys=lp bl bl.length/\J ys t)\/(∃pre,(∃k,pre=lp bl k)/\Jx pre t)):=by
 have U:=hid hc;have X:=hid hY;have O:=hid hJ;clear hc hY hJ;refine callsIn_of_wp func283 rfl hf ?_ hro;simp only[ntmps283,kjw,kq0,kxb,Nat.reduceAdd,Nat.reduceSub,kko,kkp,kk9,kkt,kz1,kzm]
 gi_wp2
 gi_loopw [7] (λi wr=>∃k:Nat,k<=bl.length/\i=.int .i64 k/\J (lp bl k) wr/\Below n₀ W wr)
  (λi _=>bl.length-(intOf i).toNat)
 case atStart=>exact⟨0,kqy _,rfl,y,kqk _ _⟩
 obtain⟨k,hk,rfl,j,a⟩:=hrel;have hz:=a.size;by_cases f:k<bl.length
 .obtain ⟨b,d,rfl,r,y,G,P,M,N,K⟩:=U.out.at_ f;replace y:=(a.cell (p:=⟨b,d+k*6,none⟩) r).trans y;replace G:=(a.cell (p:=⟨b,d+k*6+1,none⟩) r).trans G;replace P:=(a.cell (p:=⟨b,d+k*6+2,none⟩) r).trans P;replace M:=(a.cell (p:=⟨b,d+k*6+3,none⟩) r).trans M;replace N:=(a.cell (p:=⟨b,d+k*6+4,none⟩) r).trans N;replace K:=(a.cell (p:=⟨b,d+k*6+5,none⟩) r).trans K;have q:=X.out (lp bl k) ⟨k,f⟩;dsimp only at q;rw[<-bP bl k f] at y G P M N K;have m:Hid (a8 (gk bl k)=true->lp bl (k+1)=lp bl k++[⟨k,f⟩]):=vp f;have z:Hid (a8 (gk bl k)=false->lp bl (k+1)=lp bl k):=DK;have E:=hid q;have hpl:=lp_len bl k;clear q;generalize gk bl k=x at *;obtain⟨S,xs,B,R,H,Q⟩:=x;dsimp only at *;cases c:a8 ⟨S,xs,B,R,H,Q⟩
  .have w:=hid (z.out c);by_cases g:B=1
   .have I:H=false:=by subst g;simpa [a8] using c
    subst g I;clear c
    gi_wp2
    refine⟨λ_ h=>(by cases h),?_⟩
    gi_wp2
    go_roundw
    case rel=>exact⟨k+1,by omega,by go_num,by rw[w.out];exact O.out _ _ _ j,a.alloc (by omega) _⟩
    case measure=>simp[intOf];omega
   have hkb:(B==1)=false:=by rw[kqi];exact g
   clear c g
   gi_wp2
   refine⟨λ_ h=>(by cases h),?_⟩
   gi_wp2
   go_roundw
   case rel=>exact⟨k+1,by omega,by go_num,by rw[w.out];exact O.out _ _ _ j,a.alloc (by omega) _⟩
   case measure=>simp[intOf];omega
  have C:B=1/\H=true:=by simpa [a8] using c
  obtain⟨rfl,rfl⟩:=C;obtain⟨fn,tmps,assign,body,T,V⟩:=E.out (wr.alloc (.cells #[.int .i64 S,.int .i64 xs,.int .i64 1,.int .i64 R,.bool true,.int .u64 (Q:Int)] 55)) (O.out _ _ _ j) (by omega);unfold Bk.val at T;dsimp only at T
  gi_wp2
  refine V.mono ?_;rintro e W3 (⟨rfl,L,D⟩|⟨rfl,u⟩)
  .gi_wp2
   go_roundw
   case rel=>exact⟨k+1,by omega,by go_num,by rw[m.out c];exact L,(a.alloc (by omega) _).trans D⟩
   case measure=>simp[intOf];omega
  gi_wp2
  refine kqo (results_none rfl _ _ _) rfl ?_;exact⟨⟨_,rfl⟩,.inr ⟨_,⟨k+1,(m.out c).symm⟩,u⟩⟩
 obtain rfl:k=bl.length:=by omega
 gi_wp2
 go_end0;exact⟨⟨_,rfl⟩,.inl ⟨_,rfl,j⟩⟩
theorem I8(F:Fence)(n:Nat)(h:F.fn 254)(hro:F.round=none)(A:Option Addr)(len cap:Nat)(w:World):
 CallsIn F n prog 254 #[.slice A len cap] w λe w'=>e=.returned (.func (.func 283) #[] #[.pointer (some ⟨w.heap.size,0,none⟩)])/\w'=w.alloc (.cells #[.slice A len cap] 48):=by
 refine callsIn_of_wp func254 rfl h ?_ hro;simp only[ntmps254,kjw,kq0,kxb,Nat.reduceAdd,Nat.reduceSub,kko,kkp,kk9,kkt,kz1,kzm]
 gi_wp2
 go_ret;exact⟨rfl,rfl⟩
theorem xD(F:Fence)(n:Nat)(hf:F.fn 283)(hro:F.round=none)(hn:1<=n)(Bs n₀:Nat)(A:Option Addr)(bl:List Bk)(cap:Nat)(hlen:bl.length<=4294967296)(w:World)(hBs:Bs<w.heap.size)(hn₀:n₀<=w.heap.size)(hc:w.cell? ⟨Bs,0,none⟩=some (.slice A bl.length cap))(hI:RdB w n₀ A bl):
 SeqStopsK F n prog 283 #[.pointer (some ⟨Bs,0,none⟩)] (λx:Idx bl=>#[.int .i64 (x.1:Int),(gk bl x.1).val]) (Below n₀) (λh=>h=lp bl bl.length) (λa=>∃k,a=lp bl k) bl.length w:=λl J c W b f _ g i =>
 EQ F n hf hro hn l Bs n₀ A bl cap hlen J c (λs W o d=>f s W _ none d (World.grownBy_alloc W o none) (λr e=>by cases e)) g W (kz3 hn₀ b.size) ((b.cell (p:=⟨Bs,0,none⟩) hBs).trans hc) (hI.below (b.mono hn₀)) i
attribute [local go_sem] Oper.semAt_some
theorem Aj:(prog.info? 3).map (λi=>(i.zero,i.size,i.bytes))=some (some (.int .i64 0),1,8):=by kernel_rfl
def Bk.arr (b:Bk):Array Value:=#[.int .i64 b.at_,.int .i64 b.size,.int .i64 b.kind,.int .i64 b.typ,.bool b.mark,.int .u64 (b.next:Int)]
theorem ur(B:Nat)(t:TypeId)(f:β->Array Value):Own (λs W=>Bx W B t (f s)):=λs X Y row b g a =>
 Bx.grown b g (λe=>by obtain⟨o,c,d⟩:=a B e.symm;rw[show X.heap[B]? = _ from b] at c;cases c;cases d)
def sZ (l:List Bk):List (Idx l)->Int
 | []=>0
 | x::p=>sZ l p+(gk l x.1).size
theorem yD(l:List Bk)(p:List (Idx l))(x:Idx l):sZ l (p++[x])=sZ l p+(gk l x.1).size:=by
 induction p with
 | nil=>simp[sZ]
 | cons y p ih=>simp only[kzm,sZ,ih];omega
theorem szSum_lp(hk:k<=l.length)(s:Int):s+sZ l (lp l k)=aP (l.take k) s:=by
 induction k with
 | zero=>simp[lp,sZ,aP]
 | succ k ih =>
  have:=ih (by omega);rw[iz (by omega),<-bP l k (by omega)];cases a:a8 (gk l k)
  .rw[DK a,this];simp
  rw[vp (by omega) a,yD];simp;omega
theorem B5(h:cn l=0)(x:Idx l):2<=(gk l x.1).size/\(gk l x.1).size<=2048:=by have:=(eH _).1 (dV (dy h).2 x.2).1;omega
theorem rV(A:Option Addr)(l:List Bk)(c n:Nat)(s:Int)(w:World)(hn:l.length=n)(hm:n<=9223372036854775807)(hr:RdB w w.heap.size A l)(hs : -9223372036854775808<=s/\s<=9223372036854775807):
 Calls prog 252 #[.slice A n c,.int .i64 s] w λe w'=>e=.returned (.int .i64 (eB l s))/\Below w.heap.size w w':=by
 subst hn;have C:=hid hr;clear hr;have r:Hid (cn l≠0->eB l s=cn l):=λh=>Ht h;have m:Hid (cn l=0->s<128\/oh l<s\/s%2≠0->eB l s=2):=λh B=>GQ h B;have k:Hid (cn l=0->128<=s/\s<=oh l/\s%2=0->eB l s=0):=λh B=>AG h B;obtain⟨sb1,sb2⟩:=hs;have v:Hid (s%2=0)/\(s%2 != 0)=false\/Hid (s%2≠0)/\(s%2 != 0)=true:=by
  by_cases h:s%2=0
  .exact .inl ⟨h,by rw[kqr];exact h⟩
  exact .inr ⟨h,by rw[kqv];exact h⟩
 have f:Hid (oh l=2048)/\l.length=0\/0<l.length:=by
  by_cases h:l.length=0
  .exact .inl ⟨by simp[Hid,oh,h],h⟩
  exact .inr (by omega)
 rcases v with⟨g,t⟩|⟨g,t⟩
 all_goals
  go_enter func252,ntmps252;go_wp2_with fail;refine (Jt A l c l.length _ rfl hm C.out).mono ?_;rintro e w1 ⟨rfl,d⟩;by_cases a:cn l=0
  .have j:=hid a;rw[a];clear a;rcases f with⟨o,z⟩|u
   .have u:¬ 0<l.length:=by omega
    clear z;go_wp2_with fail
    all_goals
     go_ret
     first
      | exact⟨by rw[m.out j.out (by rw[o.out];have:=g.out;omega)];rfl,d⟩
      | exact⟨by rw[k.out j.out (by rw[o.out];have:=g.out;omega)];rfl,d⟩
   obtain⟨b,y,rfl,D,q,-⟩:=C.out.at_ u;replace q:=(d.cell (p:=⟨b,y+0*6,none⟩) D).trans q;have i:=hid (show oh l=l[0].at_ by simp only[oh,show l.length≠0 from by omega,if_false];rw[bP l 0 u]);simp only[kvu,kz8] at q;obtain⟨E,f⟩:=xq (l[0].at_);rw[f] at q;have o:=hid (show oh l=E by rw[i.out,f]);have hdd:(0:Int)<(l.length:Int):=by omega
   clear f i;go_wp2_with fail
   all_goals
    go_ret
    first
     | exact⟨by rw[m.out j.out (by rw[o.out];have:=g.out;omega)];rfl,d⟩
     | exact⟨by rw[k.out j.out (by rw[o.out];have:=g.out;omega)];rfl,d⟩
  have F:=hid (r.out a);have hn1:(cn l==0)=false:=by rw[kqi];exact a
  have hn2:(cn l != 0)=true:=by rw[kqv];exact a
  clear a;go_wp2;go_ret;exact⟨by rw[F.out];rfl,d⟩
def jp (l:List Bk) (s:Int):List Int:=if eB l s=0 then bv l s else []
def y9 (l:List Bk) (s:Int) (e:Ending) (w':World):Prop:=∃A c,e=.returned (.tuple #[.slice A (jp l s).length c,.int .i64 (eB l s)])/\RdI w' w'.heap.size A (jp l s)/\(jp l s).length<=c
theorem rT{v:Value}(h0:eB l s=0)(hn:l.length=n)(h:w'.ownsRow H 3 1 v n ((bv l s).flatMap cX)):y9 l s (.returned (.tuple #[v,.int .i64 0])) w':=by
 subst hn;have d:(jp l s).length=l.length:=by simp[jp,h0,dt]
 have e:∃A c,v=.slice A l.length c/\l.length<=c:=by
  rcases h.2 with⟨rfl,b⟩|⟨g,cap,cur,rfl,_,_,a,_⟩
  .exact ⟨none,0,by rw[b],by omega⟩
  exact⟨_,_,rfl,a⟩
 obtain⟨A,c,rfl,a⟩:=e;refine⟨A,c,by rw[d,h0],?_,by rw[d];exact a⟩;have:=Rd.of_own h
 simpa [RdI,jp,h0] using this
theorem FW{r:Int}(hr:eB l s=r)(h0:r≠0):y9 l s (.returned (.tuple #[.slice none 0 0,.int .i64 r])) w':=by
 subst hr;have:jp l s=[]:=by simp[jp,h0]
 exact⟨none,0,by rw[this];rfl,by rw[this];exact Rd.nil_,by rw[this];simp⟩
attribute [local go_sem] Oper.semAt_some
def jO (Q:Exit->Act->World->Prop):Exit->Act->World->Prop
 | .normal,a,w=>Q .normal a w
 | _,_,_=>False
theorem In{l:Nat}{Q:Exit->Act->World->Prop}(hd:∀o∈ops.toList,∀c,o.op≠.defer c){i:Nat}{K:Act->World->Prop}(h:wpOp P ops (jO Q) i K a w):wpOpIn (Fence.wide.inRound l) n P ops Q i K a w:=by
 unfold wpOp at h;unfold wpOpIn;split
 .rename_i e
  simpa only[e] using h
 rename_i o ho;simp only[ho] at h;split
 .rename_i hw;simp only[hw,if_true] at h;rcases h with h|⟨_,_,_,h⟩
  .refine ⟨λ_ _=>trivial,?_⟩;have g:o∈ops.toList:=by obtain⟨hlt,b⟩:=kjy.1 ho;rw[<-b];simp
   rw[Oper.semAt_eq _ _ _ (hd o g)];unfold Oper.wp at h;generalize (execOp a.eval o).run P w=r at *;cases r with
   | ok x w' =>
    cases x<;>simp only[Oper.upon,Oper.uponIn] at h |-
    case value u=>exact h
    case skip=>exact h
    case defer d=>exact h
    case enter f args =>
     refine⟨λh=>(by cases h),CallsIn.inRound l (callsIn_wide.2 (h.mono λe w'' b=>?_))⟩;cases e with
     | returned u=>exact b
     | panicked c=>exact b.elim
     | outgrown=>obtain⟨_,_,b⟩:=b;exact b.elim
    case row row args =>
     exact⟨λh=>(by cases h),λc cs _=>(let ⟨v,w',q,s⟩:=h c cs;⟨v,w',q,stepsIn_wide.2 s⟩)⟩
   | halt x w' =>
    cases x<;>simp only[Oper.upon,Oper.uponIn] at h |-
    case panic u=>exact h.elim
  exact h.elim
 rename_i hw;simp only[hw] at h;exact⟨λ_ _=>trivial,h⟩
theorem vP{l:Nat}{md:Region.Mode}{Q:Exit->Act->World->Prop}(hd:∀o∈ops.toList,∀c,o.op≠.defer c):
 ∀(fuel:Nat) (listed:Array Bool) (a:Act) (w:World),wpAny P md ops (jO Q) fuel listed a w->wpAnyIn (Fence.wide.inRound l) n P md ops Q fuel listed a w
 | 0,_,_,_,h=>h
 | fuel+1,_,_,_,h=>⟨h.1,λi b=>wpOpIn_mono (λd w' e=>vP hd fuel _ d w' e) (In hd (h.2 i b))⟩
theorem rl{l:Nat}{id:Nat}{Q:Exit->Act->World->Prop}(S:World->Prop)(hm:P.follows .mixedOrders=true)(hd:∀o∈ops.toList,∀c,o.op≠.defer c)(h:wpAnyH P .any ops (jO Q) S ops.size (Array.replicate ops.size false) a w.drew):(Code.region id ops true).wpIn (Fence.wide.inRound l) n P Q a w:=
 wpIn_region_any hm (vP hd _ _ _ _ (wpAny_of_held _ _ _ _ h))
theorem He(u m:Int)(g:Nat)(w:World)(h1:0<=u)(h2:u<=2048)(h3:0<=m)(h4:m<=2200000)(hc:w.cell? ⟨g,0,none⟩=some (.int .i64 m))(hf:w.frozen? ⟨g,0,none⟩=false):
 Calls prog 253 #[.int .i64 u,.pointer (some ⟨g,0,none⟩)] w λe w'=>e=.returned (.int .i64 m)/\w.setCell ⟨g,0,none⟩ (.int .i64 (m+u))=w':=by go_enter func253,ntmps253;go_wp2;go_ret;exact⟨GL (by omega),rfl⟩
theorem AB(B:Nat)(t:TypeId)(n:Nat)(f:β->Nat->Value):Own (λs W=>W.rowIs B t n (f s)):=λs X Y row e j a=>by obtain⟨c,b,k,h⟩:=e;refine⟨c,(j.block B (kjy.1 b).1 (λi=>?_)).trans b,k,h⟩;obtain⟨o,d,g⟩:=a B i.symm;rw[b] at d;cases d;cases g
def gq (l:List Bk) (s:Int) (pre:List (Idx l)):Int × (Nat->Int):=
 pre.foldl (λst x=>(st.1+(gk l x.1).size,λj=>if j=x.1 then st.1 else st.2 j)) (s,λ_=>0)
theorem jT(l:List Bk)(s:Int)(pre:List (Idx l))(x:Idx l):
 gq l s (pre++[x])=((gq l s pre).1+(gk l x.1).size,λj=>if j=x.1 then (gq l s pre).1 else (gq l s pre).2 j):=by simp[gq]
theorem Eo(h:cn l=0)(s:Int)(a:List (Idx l)):s<=(gq l s a).1/\(gq l s a).1<=s+2048*a.length:=by
 have d:∀(n:Nat) (a:List (Idx l)),a.length=n->s<=(gq l s a).1/\(gq l s a).1<=s+2048*a.length:=by
  intro n
  induction n with
  | zero=>intro a c;rw[kx2 c];simp[gq]
  | succ n ih =>
   intro a c;have b:a≠[]:=by intro e;subst e;simp at c
   obtain⟨q,x,rfl⟩:∃q x,a=q++[x]:=⟨a.dropLast,a.getLast b,(List.dropLast_concat_getLast b).symm⟩;have:=ih q (by simpa using c);have hx:=B5 h x;rw[jT];simp only[kqu,kq0,kxb];omega
 exact d _ a rfl
theorem FP(s:Int)(h:k<=l.length):(gq l s (lp l k)).1=aP (l.take k) s/\∀j,j<k->(gq l s (lp l k)).2 j=(bv (l.take k) s)[j]?.getD 0:=by
 induction k with
 | zero=>simp[lp,gq,aP]
 | succ k ih =>
  obtain⟨c,g⟩:=ih (by omega);have d:(bv (l.take k) s).length=k:=by rw[dt,kq3];omega
  have b:∀ {m:Nat},k<=m->m<=l.length->(gq l s (lp l k)).2 m=0:=by
   intro m f _;have:∀(k:Nat),k<=l.length->∀m,k<=m->(gq l s (lp l k)).2 m=0:=by
    intro k h
    induction k with
    | zero=>intro m _;rfl
    | succ k ih =>
     intro m f;cases a:a8 (gk l k)
     .rw[DK a];exact ih (by omega) m (by omega)
     rw[vp (by omega) a,jT];dsimp only;rw[if_neg (by omega)];exact ih (by omega) m (by omega)
   exact this k (by omega) m f
  rw[iz (by omega),kT (by omega),<-bP l k (by omega)];cases a:a8 (gk l k)
  .rw[DK a];refine⟨by simp[c],λj i=>?_⟩;by_cases e:j=k
   .subst e;rw[b (kqa _) (by omega),kxi (by omega),d];simp
   rw[kkq (by omega)];exact g j (by omega)
  rw[vp (by omega) a,jT];refine⟨by simp[c],λj i=>?_⟩;dsimp only;by_cases e:j=k
  .subst e;rw[if_pos rfl,kxi (by omega),d];simp[c]
  rw[if_neg e,kkq (by omega)];exact g j (by omega)
theorem rH{B:Nat}{t:TypeId}{f:Nat->Value}{xs:List Value}(h:w.rowIs B t n f)(hB:H<=B)(hm:n<=maxLen)(hl:xs.length=n)(hx:∀i,i<n->xs[i]? = some (f i)):
 w.ownsRow H t 1 (.slice (some ⟨B,0,none⟩) n n) n xs:=by
 obtain⟨c,b,h1,d⟩:=h;refine⟨by omega,.inr ⟨B,n,c,rfl,hB,b,kqa _,hm,by omega,?_⟩⟩;apply kjj;intro i;by_cases a:i<n
 .rw[List.getElem?_take_of_lt (by omega),hx i a,<-d i a];simp
 rw[kzi (by rw[kq3];simp;omega),kzi (by omega)]
theorem z8(A:Option Addr)(l:List Bk)(c n:Nat)(s:Int)(w:World)(hn:l.length=n)(hm:n<=4294967296)(hr:RdB w w.heap.size A l)(hs : -9223372036854775808<=s/\s<=9223372036854775807):
 CallsIn Fence.wide 6 prog 206 #[.slice A n c,.int .i64 s] w λe w' =>
  (eB l s=0->∃v,e=.returned (.tuple #[v,.int .i64 0])/\w'.ownsRow w.heap.size 3 1 v n ((bv l s).flatMap cX))/\(eB l s≠0->e=.returned (.tuple #[.slice none 0 0,.int .i64 (eB l s)]))/\Below w.heap.size w w':=by
 subst hn;have HR:=hid hr;clear hr;by_cases F:eB l s=0
 .obtain ⟨E,hs1,hs2,_⟩:=eQ F;have hlen:=(dy E).1;have hmb:=As E;have hmk:=run_make_row' (P:=prog) 42 3 (.int .i64 0) 8 underlying42 Aj rfl .i64 .i64 l.length (by omega) (by omega);have o:=rV A l c l.length s (w.alloc (.cells #[.int .i64 s] 3)) rfl (by omega) ((HR.out.alloc (kqa _) _).more (by simp)) hs;rw[F] at o;have T:=hid o;have Kf:=hid E;refine CallsIn.mono (R:=λe w'=>(∃v,e=.returned (.tuple #[v,.int .i64 0])/\w'.ownsRow w.heap.size 3 1 v l.length ((bv l s).flatMap cX))/\Below w.heap.size w w') ?_ (λe w' h=>⟨λ_=>h.1,λh'=>absurd F h',h.2⟩);clear F o E;refine callsIn_of_wp_marks func206 rfl trivial ?_ rfl;simp only[ntmps206,kjw,kq0,kxb,Nat.reduceAdd,Nat.reduceSub,kko,kkp,kk9,kkt,kz1,kzm]
  gi_wp2
  refine⟨trivial,(callsIn_wide.2 T.out).mono ?_⟩;rintro e b ⟨rfl,f⟩;rw[kqm] at f;have b0:=Bx.of_new f;have S:=aw f;have Kn:=S.size
  gi_wp2
  refine⟨trivial,(I8 Fence.wide _ trivial rfl A l.length c _).mono ?_⟩;rintro e w2 ⟨rfl,rfl⟩;have r0:((b.alloc (.cells #[.func (.func 253) #[] #[.pointer (some ⟨w.heap.size,0,none⟩)]] 272)).alloc (.cells (madeCells #[.int .i64 0] l.length) 3)).rowIs (b.heap.size+1) 3 l.length (λ_=>.int .i64 0):=by have:=World.rowIs_made (b.alloc (.cells #[.func (.func 253) #[] #[.pointer (some ⟨w.heap.size,0,none⟩)]] 272)) (.int .i64 0) l.length 3;rwa [kqm] at this
  have f0:=Bx.new b 272 #[.func (.func 253) #[] #[.pointer (some ⟨w.heap.size,0,none⟩)]];obtain⟨N,C⟩:∃N,b.alloc (.cells #[.func (.func 253) #[] #[.pointer (some ⟨w.heap.size,0,none⟩)]] 272)=N:=⟨_,rfl⟩;have ba:Bx N w.heap.size 3 #[.int .i64 s]:=by rw[<-C];exact b0.alloc _
  have Eq:Below w.heap.size w N:=by rw[<-C];exact S.alloc Kn _
  have Kg:N.heap.size=b.heap.size+1:=by rw[<-C];simp
  rw[C] at r0 f0 |-;clear C b0 S;obtain⟨M,I⟩:=xq (madeCells #[Value.int .i64 0] l.length);rw[I] at r0 |-;have bb:=ba.alloc (.cells M 3);have fb:=f0.alloc (.cells M 3);have Q:=Eq.alloc (by omega) (.cells M 3);have g:(N.alloc (.cells M 3)).heap.size=b.heap.size+2:=by simp[Kg]
  obtain⟨wb,Ke⟩:=xq (N.alloc (.cells M 3));rw[Ke] at r0 bb fb Q g |-;clear Ke I ba f0 Eq Kg;have ob:=Bx.new wb 42 #[.slice (some ⟨b.heap.size+1,0,none⟩) l.length l.length];have b2:=(bb.alloc (.cells #[.slice (some ⟨b.heap.size+1,0,none⟩) l.length l.length] 42)).alloc (.cells #[.slice A l.length c] 48);have f2:=(fb.alloc (.cells #[.slice (some ⟨b.heap.size+1,0,none⟩) l.length l.length] 42)).alloc (.cells #[.slice A l.length c] 48);have r2:=(r0.alloc (.cells #[.slice (some ⟨b.heap.size+1,0,none⟩) l.length l.length] 42)).alloc (.cells #[.slice A l.length c] 48);have o2:=ob.alloc (.cells #[.slice A l.length c] 48);have J:=(Q.alloc (by omega) (.cells #[.slice (some ⟨b.heap.size+1,0,none⟩) l.length l.length] 42)).alloc (by simp;omega) (.cells #[.slice A l.length c] 48);have c1:=Bx.new (wb.alloc (.cells #[.slice (some ⟨b.heap.size+1,0,none⟩) l.length l.length] 42)) 48 #[.slice A l.length c];have Kl:((wb.alloc (.cells #[.slice (some ⟨b.heap.size+1,0,none⟩) l.length l.length] 42)).alloc (.cells #[.slice A l.length c] 48)).heap.size=b.heap.size+4:=by simp[g]
  rw[g] at o2;rw[kqm,g] at c1;obtain⟨W0,Kd⟩:∃W0,(wb.alloc (.cells #[.slice (some ⟨b.heap.size+1,0,none⟩) l.length l.length] 42)).alloc (.cells #[.slice A l.length c] 48)=W0:=⟨_,rfl⟩;rw[Kd] at b2 f2 r2 o2 J c1 Kl |-;clear Kd r0 bb fb Q ob
  gi_wp2
  refine wpIn_rangeFunc_ownH rfl (show 1<=6 by omega) (gf:=283) (lb:=#[.pointer (some ⟨b.heap.size+2+1,0,none⟩)]) rfl trivial (enters_of func283 (by kernel_rfl) rfl)
   (xD Fence.wide 5 trivial rfl (by omega) (b.heap.size+2+1) w.heap.size A l c (by omega) W0 (by omega) (by omega) (c1.c1).1 ((HR.out).below J)) belowK_t (belowK_b (by omega)) (kqk _ _) (λ_=>rfl)
   (λd W=>(Bx W w.heap.size 3 #[.int .i64 (gq l s d).1]/\Bx W b.heap.size 272 #[.func (.func 253) #[] #[.pointer (some ⟨w.heap.size,0,none⟩)]]/\Bx W (b.heap.size+2) 42 #[.slice (some ⟨b.heap.size+1,0,none⟩) l.length l.length]/\W.rowIs (b.heap.size+1) 3 l.length (λj=>.int .i64 ((gq l s d).2 j)))/\Below w.heap.size w W)
   (λ_ _ _=>False)
   (OwnFrom.and (OwnFrom.and (Own.from (ur _ _ _) _) (OwnFrom.and (Own.from (ur _ _ _) _) (OwnFrom.and (Own.from (ur _ _ _) _) (Own.from (AB _ _ _ _) _)))) (ownFrom_below (kqa _) (by omega)))
   (λ_ _ _ _ _ hs _ _=>hs)
   ⟨⟨b2,f2,o2,r2⟩,J⟩
   (λx a' W=>∃Bx',b.heap.size+2<Bx'/\Bx W Bx' 55 (gk l x.1).arr/\a'={ tmps:=#[.slice A l.length c,.int .i64 s,undef,.pointer (some ⟨w.heap.size,0,none⟩),.slice none 0 0,.int .i64 0,.int .i64 0,.pointer (some ⟨b.heap.size,0,none⟩),.pointer (some ⟨b.heap.size+1+1,0,none⟩),.int .i64 (x.1:Int),.pointer (some ⟨Bx',0,none⟩),.slice A l.length c,.int .i64 s,.int .i64 0,.int .i64 0,.bool false,undef,.func (.func 253) #[] #[.pointer (some ⟨w.heap.size,0,none⟩)],.slice A l.length c,.int .i64 (l.length:Int),.slice (some ⟨b.heap.size+1,0,none⟩) l.length l.length,.slice A l.length c,.func (.func 283) #[] #[.pointer (some ⟨b.heap.size+2+1,0,none⟩)],.int .i64 (x.1:Int),(gk l x.1).val,undef,undef,undef,undef,undef,undef,undef,undef],defers:=[] })
   (λx a' _ X Y row hs hg hr=>by obtain⟨B',h1,h2,h3⟩:=hs;exact⟨B',h1,ur B' 55 (λ(_:Unit)=>(gk l x.1).arr) () X Y row h2 hg (λr e=>(hr r e).2),h3⟩)
   ?assign ?body ?done ?stop
  case assign =>
   rintro l' d x W K ⟨⟨bS,bF,G,H⟩,hB⟩ k;have hz:=hB.size;obtain⟨y,hy⟩:=xq (gk l x.1);rw[hy] at k |-;obtain⟨xa,xs,xk,xt,xm,xn⟩:=y;unfold Bk.arr Bk.val at k;unfold Bk.val;dsimp only at k |-;have HK:=hid k;clear k hy
   gi_wp2
   exact HK.out _ _ ((KeepsOthers.alloc _ _).from _) ((kqk _ W).alloc hz _) ⟨⟨bS.alloc _,bF.alloc _,G.alloc _,H.alloc _⟩,hB.alloc hz _⟩ ⟨W.heap.size,G.lt,Bx.new W _ _,rfl⟩
  case body =>
   rintro l' d x a' W hl ⟨r,hr⟩ ⟨⟨bS,bF,G,H⟩,hB⟩ ⟨B',hB',bX,rfl⟩ Kj;have g:=Eo Kf.out s d;have Ka:=B5 Kf.out x;have Kh:=hid (jT l s d x);have hxl:=x.2;have g1:W.cell? ⟨B',1,none⟩=some (.int .i64 (gk l x.1).size):=bX.cell 1;obtain⟨s1,s2,s3⟩:=bS.c1;obtain⟨t1,t2,t3⟩:=bF.c1;obtain⟨o1,o2,o3⟩:=G.c1;have r1:=H.frozen x.1;have L:prog.follows .mixedOrders=true:=by kernel_rfl
   obtain⟨q,hq⟩:∃q,W.cell? ⟨b.heap.size+1,x.1,none⟩=some (.int .i64 q):=⟨_,H.cell x.2⟩;have hxi:(x.1:Int)<(l.length:Int):=by omega
   have hx0:(0:Int)<=(x.1:Int):=by omega
   have hxn:((x.1:Int)).toNat=x.1:=by omega
   obtain⟨u,hu⟩:=xq ((gk l x.1).size);obtain⟨m,U⟩:=xq ((gq l s d).1);rw[hu] at g1 Ka;rw[U] at s1 g;have Kk:m<=2200000:=by omega
   have Km:0<=m:=by omega
   obtain⟨hx1,Ko⟩:=Ka;have bS2:=hid bS;have bR2:=hid H;have bF2:=hid bF;have bO2:=hid G;have HU:=hid hu;have Ki:=hid U;clear g bS H bF G hu U Kj
   gi_wp2
   have B:(λX:World=>X.cell? ⟨b.heap.size+1+1,0,none⟩=some (.slice (some ⟨b.heap.size+1,0,none⟩) l.length l.length)/\X.cell? ⟨b.heap.size,0,none⟩=some (.func (.func 253) #[] #[.pointer (some ⟨w.heap.size,0,none⟩)])/\X.cell? ⟨B',1,none⟩=some (.int .i64 u)) W.drew:=⟨o1,t1,g1⟩;refine rl (λX:World=>X.cell? ⟨b.heap.size+1+1,0,none⟩=some (.slice (some ⟨b.heap.size+1,0,none⟩) l.length l.length)/\X.cell? ⟨b.heap.size,0,none⟩=some (.func (.func 253) #[] #[.pointer (some ⟨w.heap.size,0,none⟩)])/\X.cell? ⟨B',1,none⟩=some (.int .i64 u)) L (by simp) ?_;show wpAnyH _ _ _ _ _ 8 #[false,false,false,false,false,false,false,false] _ _;refine kkv (i:=0) (v:=.slice (some ⟨b.heap.size+1,0,none⟩) l.length l.length) rfl (by kernel_rfl) (by kernel_rfl) (by kernel_rfl) (λ_ _ _ h=>h) (Or.inl ⟨by rfl,?_⟩) B ?_
   .intro X z;obtain⟨q1,q2,q3⟩:=z;go_simp
   dsimp only[Act.put,kqb,kqg,kqf];refine kkv (i:=1) (v:=.int .i64 (x.1:Int)) rfl (by kernel_rfl) (by kernel_rfl) (by kernel_rfl) (λ_ _ _ h=>h) (Or.inl ⟨by rfl,?_⟩) B ?_
   .intro X z;obtain⟨q1,q2,q3⟩:=z;go_simp
   dsimp only[Act.put,kqb,kqg,kqf];refine kkv (i:=2) (v:=.func (.func 253) #[] #[.pointer (some ⟨w.heap.size,0,none⟩)]) rfl (by kernel_rfl) (by kernel_rfl) (by kernel_rfl) (λ_ _ _ h=>h) (Or.inl ⟨by rfl,?_⟩) B ?_
   .intro X z;obtain⟨q1,q2,q3⟩:=z;go_simp
   dsimp only[Act.put,kqb,kqg,kqf];refine kkv (i:=3) (v:=.pointer (some ⟨B',1,none⟩)) rfl (by kernel_rfl) (by kernel_rfl) (by kernel_rfl) (λ_ _ _ h=>h) (Or.inl ⟨by rfl,?_⟩) B ?_
   .intro X z;obtain⟨q1,q2,q3⟩:=z;go_simp
   dsimp only[Act.put,kqb,kqg,kqf];refine kkv (i:=4) (v:=.int .i64 u) rfl (by kernel_rfl) (by kernel_rfl) (by kernel_rfl) (λ_ _ _ h=>h) (Or.inl ⟨by rfl,?_⟩) B ?_
   .intro X z;obtain⟨q1,q2,q3⟩:=z;go_simp
   dsimp only[Act.put,kqb,kqg,kqf];refine kz5 (rs:=[5]) (by kernel_rfl) (by simp) ?_;refine AllReadyH.cons rfl (λK k=>?_) AllReadyH.nil;go_simp;refine (He u m w.heap.size W.drew (by omega) Ko Km Kk s1 s2).mono ?_;rintro e w' ⟨rfl,rfl⟩;go_simp;have Kc:=f.size;rw[kqm] at Kc;have ne:∀(p:Addr),p.block≠w.heap.size->((W.setCell ⟨w.heap.size,0,none⟩ (.int .i64 (m+u))).drew).cell? p=W.cell? p:=λp hp=>kj2 W _ _ _ (by rintro rfl;exact hp rfl);refine k.out _ _ ⟨(ne _ (by dsimp only;omega)).trans o1,(ne _ (by dsimp only;omega)).trans t1,(ne _ (by dsimp only;omega)).trans g1⟩ (λZ=>?_);clear k K;have Kp:=(ne ⟨b.heap.size+1,x.1,none⟩ (by dsimp only;omega)).trans hq;have r1':((W.setCell ⟨w.heap.size,0,none⟩ (.int .i64 (m+u))).drew).frozen? ⟨b.heap.size+1,x.1,none⟩=false:=by show (W.setCell _ _).frozen? _=_;rw[World.frozen?_setCell];exact r1
   have NE:=hid ne;clear ne;obtain⟨V,hV⟩:∃V,(W.setCell ⟨w.heap.size,0,none⟩ (.int .i64 (m+u))).drew=V:=⟨_,rfl⟩;have HV:=hid hV;rw[hV] at Kp r1' Z |-;clear hV;refine kkv (i:=6) (v:=.pointer (some ⟨b.heap.size+1,x.1,none⟩)) rfl (by kernel_rfl) (by kernel_rfl) (by kernel_rfl) (λ_ _ _ h=>h) (Or.inl ⟨by rfl,?_⟩) Z ?_
   .intro X z;obtain⟨q1,q2,q3⟩:=z;go_simp
   dsimp only[Act.put,kqb,kqg,kqf];refine kz5 (rs:=[7]) (by kernel_rfl) (by simp) ?_;refine AllReadyH.cons rfl (λK k=>?_) AllReadyH.nil;go_simp;obtain⟨p1,p2,p3⟩:=Z;have O:∀(p:Addr),p.block≠b.heap.size+1->(V.setCell ⟨b.heap.size+1,x.1,none⟩ (.int .i64 m)).cell? p=V.cell? p:=λp hp=>kj2 _ _ _ _ (by rintro rfl;exact hp rfl);refine k.out _ _ ⟨(O _ (by dsimp only;omega)).trans p1,(O _ (by dsimp only;omega)).trans p2,(O _ (by dsimp only;omega)).trans p3⟩ (λHS2=>?_);clear k K;refine kj4 (by kernel_rfl) ?_ _;dsimp only[jO]
   gi_wp2
   have hV:=HV.out;subst hV;have E1:(gq l s (d++[x])).1=m+u:=by rw[Kh.out];show (gq l s d).1+_=_;rw[Ki.out,HU.out]
   have E2:∀j,(gq l s (d++[x])).2 j=if j=x.1 then m else (gq l s d).2 j:=λj=>by rw[Kh.out];show (if j=x.1 then (gq l s d).1 else _)=_;rw[Ki.out]
   have k1:KeepsOthers W ((W.setCell ⟨w.heap.size,0,none⟩ (.int .i64 (m+u))).drew):=(KeepsOthers.setCell _ _ _).trans (KeepsOthers.drew _);have b1:Below w.heap.size W ((W.setCell ⟨w.heap.size,0,none⟩ (.int .i64 (m+u))).drew):=((kqk _ W).setCell (p:=⟨w.heap.size,0,none⟩) (kqa _) _).drew;refine⟨(k1.trans (KeepsOthers.setCell _ _ _)).from _,b1.setCell (p:=⟨b.heap.size+1,x.1,none⟩) (by dsimp only;omega) _,⟨?_,?_,?_,?_⟩,(hB.trans (b1.mono (kqa _))).setCell (p:=⟨b.heap.size+1,x.1,none⟩) (by dsimp only;omega) _⟩
   .rw[E1];exact Bx.far (bS2.out.set_ 0 _) (p:=⟨b.heap.size+1,x.1,none⟩) (by dsimp only;omega) _
   .exact Bx.far (bF2.out.far (p:=⟨w.heap.size,0,none⟩) (by dsimp only;omega) _) (p:=⟨b.heap.size+1,x.1,none⟩) (by dsimp only;omega) _
   .exact Bx.far (bO2.out.far (p:=⟨w.heap.size,0,none⟩) (by dsimp only;omega) _) (p:=⟨b.heap.size+1,x.1,none⟩) (by dsimp only;omega) _
   refine World.rowIs.congr (World.rowIs.set (w:=(W.setCell ⟨w.heap.size,0,none⟩ (.int .i64 (m+u))).drew) (bR2.out.setOther (a:=⟨w.heap.size,0,none⟩) (by dsimp only;omega) _) x.1 (.int .i64 m)) (λj hj=>?_);rw[E2];by_cases e:j=x.1
   .rw[if_pos e,if_pos e]
   rw[if_neg e,if_neg e]
  case done =>
   rintro D zs W hD rfl ⟨⟨bS,bF,G,H⟩,hB⟩ k;obtain⟨o1,o2,o3⟩:=G.c1;have HP:=(FP (l:=l) s (kqa l.length)).2;rw[kzl] at HP;have Kb:(bv l s).flatMap cX=(bv l s).map (λv=>Value.int .i64 v):=by
    generalize bv l s=ps
    induction ps with
    | nil=>rfl
    | cons a t ih=>rw[kzx,ih];rfl
   gi_wp2
   refine⟨by simp,.inl ⟨_,_,rfl,run_takeDeferred k,?_⟩⟩;refine⟨_,results_tmp2 rfl _ _ _,⟨_,rfl,rH (H.of_block (w':=W.putObj D _) (by simp only[World.putObj];rw[Array.getElem?_setIfInBounds_ne (by omega)])) (by omega) (by simp[maxLen];omega) ?_ ?_⟩,hB.trans (belowK_b (w:=w) (kqa _) W D _ _ (by omega) k rfl rfl)⟩
   .rw[Kb,kzo,dt]
   intro i hi;rw[Kb,kxf,HP i hi,kql (by rw[dt];exact hi)];simp
  case stop =>
   rintro D c d W _ _ h _;exact h.elim
 have o:=rV A l c l.length s (w.alloc (.cells #[.int .i64 s] 3)) rfl (by omega) ((HR.out.alloc (kqa _) _).more (by simp)) hs;have hn1:(eB l s==0)=false:=by rw[kqi];exact F
 have hn2:(eB l s != 0)=true:=by rw[kqv];exact F
 have T:=hid o;refine CallsIn.mono (R:=λe w'=>e=.returned (.tuple #[.slice none 0 0,.int .i64 (eB l s)])/\Below w.heap.size w w') ?_ (λe w' h=>⟨λh'=>absurd h' F,λ_=>h.1,h.2⟩);clear F o;generalize eB l s=r at *;refine callsIn_of_wp_marks func206 rfl trivial ?_ rfl;simp only[ntmps206,kjw,kq0,kxb,Nat.reduceAdd,Nat.reduceSub,kko,kkp,kk9,kkt,kz1,kzm]
 gi_wp2
 refine⟨trivial,(callsIn_wide.2 T.out).mono ?_⟩;rintro e b ⟨rfl,f⟩;rw[kqm] at f
 gi_wp2
 exact⟨_,results_tmp2 rfl _ _ _,rfl,aw f⟩
theorem ve(A:Option Addr)(l:List Bk)(c n:Nat)(s:Int)(w:World)(hn:l.length=n)(hm:n<=4294967296)(hr:RdB w w.heap.size A l)(hs : -9223372036854775808<=s/\s<=9223372036854775807):
 Calls prog 206 #[.slice A n c,.int .i64 s] w λe w'=>y9 l s e w'/\Below w.heap.size w w':=
 (callsIn_wide.1 (z8 A l c n s w hn hm hr hs)).mono λe w' h=>by
  obtain⟨g,d,f⟩:=h
  refine⟨?_,f⟩
  by_cases b:eB l s=0
  .obtain ⟨v,rfl,a⟩:=g b
   exact rT b hn a
  .rw[d b]
   exact FW rfl b
end Go.Proofs.YtpcajamacpbjcaaGreat
