/- Texts laid together: PhP Ph Cur1 Mvd Ck Left. -/
import Derived.Test.YtpcajamacpbjcaaGreatZKHead
import Derived.Test.YtpcajamacpbjcaaGreatZKPlain
import Derived.Test.YtpcajamacpbjcaaGreatZKHeap
import Derived.Deep.RegionHeld3
import Derived.Deep.DrawnRows
import Derived.Laws.BitsLemmas
import Derived.Test.YtpcajamacpbjcaaGreatZKMove
set_option maxHeartbeats 16000000
set_option maxRecDepth 100000
set_option linter.all false
namespace Go.Proofs.YtpcajamacpbjcaaGreat
open Lib (hid)
variable {r:Int}{l:List Bk}{ws:List Nat}{f i k t:Nat}
open Go.Proofs.Tryz
def lx (n:Nat):Bool:=decide (128<=n)&&(decide (n<=2048)&&n%2==0)
theorem aT(n:Nat):lx n=true↔128<=n/\n<=2048/\n%2=0:=by simp[lx]
def zP (p f t:Nat):Bool:=if p=4 then lx f&&(lx t&&decide (t<=f)) else if t≠0 then false else if p=3 then f==0||lx f else decide (p<3)&&f==0
theorem cI(p f t:Nat):zP p f t=true↔p=4/\lx f=true/\lx t=true/\t<=f\/p=3/\t=0/\(f=0\/lx f=true)\/p<3/\t=0/\f=0:=by
 unfold zP;split
 .rename_i h;subst h;simp
 rename_i h4;split
 .rename_i h;simp[h4,h]
 rename_i h;have a:t=0:=by omega
 subst a;split
 .rename_i h3;subst h3;simp
 rename_i h3;simp[h4,h3]
def iF (ws:List Nat):Bool:=(decide (wd ws 16<=ws.length)&&(decide (wd ws 17<=ws.length)&&decide (wd ws 18<=ws.length)))&&(wd ws 19==0&&(wd ws 20==0&&(wd ws 21==0&&(wd ws 22==0&&wd ws 23==0))))
def cA (ws:List Nat):Int:=if aj (ws.length:Int)=true then (if (iF ws&&zP (wd ws 16) (wd ws 17) (wd ws 18))=true then 0 else 50) else 8
def phV (p f t:Nat):Value:=.agg #[.int .i64 (p:Int),.int .i64 (f:Int),.int .i64 (t:Int)]
def prV (ws:List Nat):Value:=if cA ws=0 then phV (wd ws 16) (wd ws 17) (wd ws 18) else phV 0 0 0
theorem rU(h:aj (ws.length:Int)=false):cA ws=8/\prV ws=phV 0 0 0:=by simp[prV,cA,h]
theorem qz(h:aj (ws.length:Int)=true)(h2:(iF ws&&zP (wd ws 16) (wd ws 17) (wd ws 18))=false):cA ws=50/\prV ws=phV 0 0 0:=by simp[prV,cA,h,h2]
theorem mj(h:aj (ws.length:Int)=true)(h2:(iF ws&&zP (wd ws 16) (wd ws 17) (wd ws 18))=true):cA ws=0/\prV ws=phV (wd ws 16) (wd ws 17) (wd ws 18):=by simp[prV,cA,h,h2]
theorem fU(h:cA ws=0):aj (ws.length:Int)=true/\iF ws=true/\zP (wd ws 16) (wd ws 17) (wd ws 18)=true:=by
 unfold cA at h;split at h
 .split at h
  .rename_i h1 h2;simp only[kqt] at h2;exact⟨h1,h2⟩
  simp at h
 simp at h
theorem qB(ws:List Nat):cA ws=0\/cA ws=8\/cA ws=50:=by
 unfold cA;split
 .split<;>simp
 simp
theorem bt(ws:List Nat):iF ws=true↔(wd ws 16<=ws.length/\wd ws 17<=ws.length/\wd ws 18<=ws.length)/\wd ws 19=0/\wd ws 20=0/\wd ws 21=0/\wd ws 22=0/\wd ws 23=0:=by simp[iF]
theorem C7(hi:i<8)(h:i<3/\ws.length<wd ws (16+i)\/3<=i/\wd ws (16+i)≠0):iF ws=false:=by
 cases a:iF ws with
 | false=>rfl
 | true =>
  obtain⟨⟨a0,a1,a2⟩,a3,a4,a5,a6,a7⟩:=(bt ws).1 a;exfalso
  match i,hi with
  | 0,_=>simp only[kz8] at h;omega
  | 1,_=>simp only[Nat.reduceAdd] at h;omega
  | 2,_=>simp only[Nat.reduceAdd] at h;omega
  | 3,_=>simp only[Nat.reduceAdd] at h;omega
  | 4,_=>simp only[Nat.reduceAdd] at h;omega
  | 5,_=>simp only[Nat.reduceAdd] at h;omega
  | 6,_=>simp only[Nat.reduceAdd] at h;omega
  | 7,_=>simp only[Nat.reduceAdd] at h;omega
def nR (ws:List Nat) (f:Nat):Bool:=match blocks ws 128 with
 | none=>false
 | some l=>l.any (λb=>b.at_==(f:Int))||f==ws.length
def cM (ws:List Nat):Int:=if cA ws=0 then (if wd ws 16=3/\wd ws 17≠0/\nR ws (wd ws 17)=false then 50 else 0) else cA ws
def lnV (ws:List Nat):Value:=if cM ws=0 then phV (wd ws 16) (wd ws 17) (wd ws 18) else phV 0 0 0
theorem ix(h:cM ws=0):cA ws=0/\(wd ws 16=3->wd ws 17≠0->nR ws (wd ws 17)=true):=by
 unfold cM at h;split at h
 .rename_i h1;refine⟨h1,λb a=>?_⟩;split at h
  .simp at h
  rename_i h4;cases c:nR ws (wd ws 17) with
  | true=>rfl
  | false=>exact absurd ⟨b,a,c⟩ h4
 rename_i h1;exact absurd h h1
theorem zX(ws:List Nat):cM ws=0\/cM ws=8\/cM ws=50:=by
 unfold cM;split
 .split<;>simp
 exact qB ws
def mdOk (ws:List Nat) (i:Nat):Bool:=aB (wd ws i)&&((ar (wd ws i)).kind==1&&(!(ar (wd ws i)).mark&&cZ ws (ar (wd ws i))))
def tV (ws:List Nat):Nat->Nat->Nat->Bool
 | 0,i,t=>i==t
 | f+1,i,t=>if i<t then mdOk ws i&&tV ws f (i+szAt ws i) t else i==t
theorem lh(h:mdOk ws i=true):2<=szAt ws i/\szAt ws i%2=0/\szAt ws i<=10:=by unfold mdOk aB at h;simp only[kqt,kqw] at h;obtain⟨⟨a,-⟩,h2,-⟩:=h;have h3:=(bA _).1 a;have e:(ar (wd ws i)).size=((szAt ws i:Nat):Int):=rfl;omega
theorem nw :∀ {f i g:Nat},t-i<=f->t-i<=g->tV ws f i t=tV ws g i t:=by
 intro f
 induction f with
 | zero =>
  intro i g h b;cases g with
  | zero=>rfl
  | succ g=>simp only[tV];rw[if_neg (by omega)]
 | succ f ih =>
  intro i g h b;cases g with
  | zero=>simp only[tV];rw[if_neg (by omega)]
  | succ g =>
   simp only[tV];split
   .cases a:mdOk ws i with
    | false=>simp
    | true =>have:=lh a;rw[ih (i:=i+szAt ws i) (by omega) (g:=g) (by omega)]
   rfl
def mvd (ws:List Nat) (i t:Nat):Bool:=tV ws t i t
theorem kj(h:t<=i):mvd ws i t=(i==t):=by unfold mvd;rw[nw (g:=0) (by omega) (by omega)];rfl
theorem kY(h:i<t)(h2:mdOk ws i=true):mvd ws i t=mvd ws (i+szAt ws i) t:=by unfold mvd;have:=lh h2;rw[nw (g:=t+1) (by omega) (by omega),tV,if_pos h,h2,kzr]
theorem sI(h:i<t)(h2:mdOk ws i=false):mvd ws i t=false:=by unfold mvd;rw[nw (g:=t+1) (by omega) (by omega),tV,if_pos h,h2,kxw]
def aw (ws:List Nat):Int:=if cM ws=0 then (if wd ws 16=4 then (if mvd ws 128 (wd ws 18)=true then aW ws (wd ws 17:Nat) (wd ws 18:Nat) else 50) else if wd ws 16=3 then aW ws 128 128 else ah ws) else cM ws
def gi (ws:List Nat):Int:=if (wd ws 17:Int)<128 then 128 else (wd ws 17:Int)
def lfN (ws:List Nat):Nat:=if aw ws=0 then (if wd ws 16<3 then 0 else (eE (aN ws (gi ws))).length) else 0
open Go.RowKit
theorem Ec(n:Int):bits .and .i64 n 1=n%2:=by
 have b:(BitVec.ofInt 64 1).toNat=2 ^ 1-1:=by decide
 have a:(BitVec.ofInt 64 n &&& BitVec.ofInt 64 1).toNat=(n%((2 ^ 64:Nat):Int)).toNat%2 ^ 1:=by rw[BitVec.toNat_and,BitVec.toNat_ofInt,b,kxu]
 show IntKind.i64.wrap ((BitVec.ofInt 64 n &&& BitVec.ofInt 64 1).toNat:Nat)=n%2;rw[a,IntKind.wrap_i64];omega
theorem Ab(n:Nat)(w:World)(hn:n<=4611686018427387904):Calls prog 217 #[.int .i64 (n:Int)] w λe w'=>e=.returned (.bool (lx n))/\w=w':=by
 have H:Hid (∀b:Bool,(b=true↔128<=n/\n<=2048/\n%2=0)->b=lx n):=hid λb h=>by rw[kzg,aT,h]
 have ha:=Ec (n:Int);go_enter func217,ntmps217;go_wp2_with fail
 all_goals
  go_ret;exact⟨ji (H.out _ (by simp;omega)),rfl⟩
def sd (p f t:Nat):Int:=if zP p f t=true then 0 else 8
theorem CW(p f t:Nat)(w:World)(hp:p<=4611686018427387904)(hf:f<=4611686018427387904)(ht:t<=4611686018427387904):
 Calls prog 163 #[phV p f t] w λe w'=>e=.returned (.int .i64 (sd p f t))/\Below w.heap.size w w':=by
 have i:=hid (λW=>Ab f W hf);have j:=hid (λW=>Ab t W ht);have c:Hid (∀r:Int,r=(if (if p=4 then lx f&&(lx t&&decide (t<=f)) else if t≠0 then false else if p=3 then f==0||lx f else decide (p<3)&&f==0)=true then 0 else 8)->sd p f t=r):=hid λr h=>by rw[h];rfl
 have y:=(kql w.heap.size w).alloc (kqd _) (.cells #[.int .i64 (p:Int),.int .i64 (f:Int),.int .i64 (t:Int)] 107);have b:=hid y;unfold phV;clear y;by_cases k:p=4
 .subst k;cases a:lx f
  .rw[a] at i;have d:=hid (c.out 8 (by rw[if_pos rfl,a];rfl));clear c j a;(try simp only[kq7] at b |-);go_enter func163,ntmps163;go_wp2_with fail;refine (i.out _).mono ?_;rintro e n ⟨rfl,rfl⟩;go_wp2;go_ret;exact⟨by rw[d.out];rfl,b.out⟩
  cases g:lx t
  .rw[a] at i;rw[g] at j;have d:=hid (c.out 8 (by rw[if_pos rfl,a,g];rfl));clear c a g;(try simp only[kq7] at b |-);go_enter func163,ntmps163;go_wp2_with fail;refine (i.out _).mono ?_;rintro e n ⟨rfl,rfl⟩;go_wp2_with fail;refine (j.out _).mono ?_;rintro e n ⟨rfl,rfl⟩;go_wp2;go_ret;exact⟨by rw[d.out];rfl,b.out⟩
  rw[a] at i;rw[g] at j;by_cases s:t<=f
  .have x:decide ((t:Int)<=(f:Int))=true:=by rw[kqn];omega
   have l:decide (t<=f)=true:=by rw[kqn];omega
   have d:=hid (c.out 0 (by rw[if_pos rfl,a,g,l];rfl));clear c a g s;(try simp only[kq7] at b |-);go_enter func163,ntmps163;go_wp2_with fail;refine (i.out _).mono ?_;rintro e n ⟨rfl,rfl⟩;go_wp2_with fail;refine (j.out _).mono ?_;rintro e n ⟨rfl,rfl⟩;go_wp2;go_ret;exact⟨by rw[d.out];rfl,b.out⟩
  have x:decide ((t:Int)<=(f:Int))=false:=by rw[kqh];omega
  have l:decide (t<=f)=false:=by rw[kqh];omega
  have d:=hid (c.out 8 (by rw[if_pos rfl,a,g,l];rfl));clear c a g s;(try simp only[kq7] at b |-);go_enter func163,ntmps163;go_wp2_with fail;refine (i.out _).mono ?_;rintro e n ⟨rfl,rfl⟩;go_wp2_with fail;refine (j.out _).mono ?_;rintro e n ⟨rfl,rfl⟩;go_wp2;go_ret;exact⟨by rw[d.out];rfl,b.out⟩
 have e4:((p:Int)==4)=false:=by rw[kqi];omega
 have e4n:(p==4)=false:=by rw[kqi];omega
 by_cases u:t=0
 .subst u;by_cases o:p=3
  .subst o;by_cases m:f=0
   .subst m;have d:=hid (c.out 0 (by simp));clear c i j k;(try simp only[kq7] at b |-);go_enter func163,ntmps163;go_wp2;go_ret;exact⟨by rw[d.out];rfl,b.out⟩
   have z:((f:Int)==0)=false:=by rw[kqi];omega
   have v:(f==0)=false:=by rw[kqi];omega
   cases a:lx f
   .rw[a] at i;have d:=hid (c.out 8 (by simp[a,m]));clear c j a k m;(try simp only[kq7] at b |-);go_enter func163,ntmps163;go_wp2_with fail;refine (i.out _).mono ?_;rintro e n ⟨rfl,rfl⟩;go_wp2;go_ret;exact⟨by rw[d.out];rfl,b.out⟩
   rw[a] at i;have d:=hid (c.out 0 (by simp[a]));clear c j a k m;(try simp only[kq7] at b |-);go_enter func163,ntmps163;go_wp2_with fail;refine (i.out _).mono ?_;rintro e n ⟨rfl,rfl⟩;go_wp2;go_ret;exact⟨by rw[d.out];rfl,b.out⟩
  have e3:((p:Int)==3)=false:=by rw[kqi];omega
  have e3n:(p==3)=false:=by rw[kqi];omega
  have p0:(0:Int)<=(p:Int):=by omega
  by_cases q:p<3
  .have x:decide ((p:Int)<3)=true:=by rw[kqn];omega
   have l:decide (p<3)=true:=by rw[kqn];omega
   by_cases m:f=0
   .subst m;have d:=hid (c.out 0 (by simp[k,o,q]));clear c i j k o q;(try simp only[kq7] at b |-);go_enter func163,ntmps163;go_wp2;go_ret;exact⟨by rw[d.out];rfl,b.out⟩
   have z:((f:Int)==0)=false:=by rw[kqi];omega
   have v:(f==0)=false:=by rw[kqi];omega
   have d:=hid (c.out 8 (by simp[k,o,q,m]));clear c i j k o q m;(try simp only[kq7] at b |-);go_enter func163,ntmps163;go_wp2;go_ret;exact⟨by rw[d.out];rfl,b.out⟩
  have x:decide ((p:Int)<3)=false:=by rw[kqh];omega
  have l:decide (p<3)=false:=by rw[kqh];omega
  have d:=hid (c.out 8 (by simp[k,o,q]));clear c i j k o q;(try simp only[kq7] at b |-);go_enter func163,ntmps163;go_wp2;go_ret;exact⟨by rw[d.out];rfl,b.out⟩
 have et:((t:Int) != 0)=true:=by rw[kqv];omega
 have etn:(t != 0)=true:=by rw[kqv];omega
 have d:=hid (c.out 8 (by rw[if_neg k,if_pos u];rfl));clear c i j k u;(try simp only[kq7] at b |-);go_enter func163,ntmps163;go_wp2;go_ret;exact⟨by rw[d.out];rfl,b.out⟩
def sm (ws:List Nat) (k:Nat):Array Value:=#[.int .i64 (if 0<k then (wd ws 16:Int) else 0),.int .i64 (if 1<k then (wd ws 17:Int) else 0),.int .i64 (if 2<k then (wd ws 18:Int) else 0)]
theorem Bh(ws:List Nat)(hk:k<3):(sm ws k).setIfInBounds k (.int .i64 (wd ws (16+k):Int))=sm ws (k+1):=by
 match k,hk with
 | 0,_=>rfl
 | 1,_=>rfl
 | 2,_=>rfl
theorem xQ(ws:List Nat)(hk:3<=k):sm ws (k+1)=sm ws k:=by unfold sm;rw[if_pos (by omega),if_pos (by omega),if_pos (by omega),if_pos (by omega),if_pos (by omega),if_pos (by omega)]
theorem wx(ws:List Nat)(hk:k<3):∃u,(sm ws k)[k]? = some u:=by
 match k,hk with
 | 0,_=>exact⟨_,rfl⟩
 | 1,_=>exact⟨_,rfl⟩
 | 2,_=>exact⟨_,rfl⟩
def okTo (ws:List Nat) (k:Nat):Prop:=∀i,i<k->(i<3->wd ws (16+i)<=ws.length)/\(3<=i->wd ws (16+i)=0)
theorem yf(ws:List Nat):okTo ws 0:=λi h=>absurd h (by omega)
theorem AF(h:okTo ws k)(h1:(k<3->wd ws (16+k)<=ws.length)/\(3<=k->wd ws (16+k)=0)):okTo ws (k+1):=λi hi=>by
 rcases kq6 i k with a|a
 .exact h i a
 .have:i=k:=by omega
  subst this;exact h1
theorem yq(h:okTo ws 8):iF ws=true:=by rw[bt];exact⟨⟨(h 0 (by omega)).1 (by omega),(h 1 (by omega)).1 (by omega),(h 2 (by omega)).1 (by omega)⟩,(h 3 (by omega)).2 (by omega),(h 4 (by omega)).2 (by omega),(h 5 (by omega)).2 (by omega),(h 6 (by omega)).2 (by omega),(h 7 (by omega)).2 (by omega)⟩
theorem xC(h:aj (ws.length:Int)=true)(h2:iF ws=false):cA ws=50/\prV ws=phV 0 0 0:=qz h (by rw[h2,kxw])
theorem Dy(h:aj (ws.length:Int)=true)(h2:sd (wd ws 16) (wd ws 17) (wd ws 18)≠0):cA ws=50/\prV ws=phV 0 0 0:=qz h (by
 unfold sd at h2;cases a:zP (wd ws 16) (wd ws 17) (wd ws 18) with
 | false=>rw[kj2]
 | true=>rw[a] at h2;exact absurd rfl h2)
theorem xD(h:aj (ws.length:Int)=true)(h1:iF ws=true)(h2:sd (wd ws 16) (wd ws 17) (wd ws 18)=0):cA ws=0/\prV ws=phV (wd ws 16) (wd ws 17) (wd ws 18):=mj h (by
 unfold sd at h2;cases a:zP (wd ws 16) (wd ws 17) (wd ws 18) with
 | true=>rw[h1];rfl
 | false=>rw[a] at h2;cases h2)
theorem bp{fn:Func}{p q:Tmp}(h:fn.results=#[.cell p 107,.tmp q])(tmps:Array Value){W:World}{g:Nat}{t:TypeId}{v0 v1 v2 u:Value}(hb:Bx W g t #[v0,v1,v2])(hp:tmps.getD p undef=.pointer (some ⟨g,0,none⟩))(hq:tmps.getD q undef=u):
 (results fn tmps).run prog W=.ok (.tuple #[.agg #[v0,v1,v2],u]) W:=by obtain⟨b,c,a,-⟩:=hb.c3;rw[kxq] at hp hq;simp[results,h,hp,hq,go_sem,b,c,a]
theorem FJ(A:Option Addr)(ws:List Nat)(c n:Nat)(w:World)(hn:ws.length=n)(hm:n<=9223372036854775807)(hc:n<=c)(O:RdW w w.heap.size A ws)(ho:∀x∈ws,x<18446744073709551616):
 Calls prog 102 #[.slice A n c] w λe w'=>e=.returned (.tuple #[prV ws,.int .i64 (cA ws)])/\Below w.heap.size w w':=by
 subst hn;have HR:=hid O;have HO:=hid ho;clear O ho;have f:=Bx.new w 107 #[.int .i64 0,.int .i64 0,.int .i64 0];cases I:aj (ws.length:Int)
 .have HI:=hid (bD I);have l:=hid (rU I);have J:=hid f;clear I f;go_enter func102,ntmps102;go_wp2_with fail;refine (aE A ws.length c _ hm).mono ?_;rintro e w1 ⟨rfl,rfl⟩;rw[HI.out];go_wp2_with fail;refine kqr (v:=.tuple #[.agg #[.int .i64 0,.int .i64 0,.int .i64 0],.int .i64 8]) (bp results102 _ J.out rfl rfl) rfl ⟨by rw[l.out.1,l.out.2];rfl,(kql _ _).alloc (kqd _) _⟩
 have HI:=hid (aX I);obtain⟨hb1,C,-⟩:=gJ ws I;have HS:=hid I;have J:=hid f;obtain⟨b,off,rfl,hb,-⟩:=RdW.at_ HR.out (show 0<ws.length by omega);have HC:Hid (∀k (h:k<8) (W:World),Below w.heap.size w W->W.cell? ⟨b,off+16+k,none⟩=some (.int .u64 (wd ws (16+k):Int))):=hid λk h W E=>by
  obtain⟨b',off',e',-,X⟩:=RdW.at_ (Rd.below HR.out E) (show 16+k<ws.length by omega);cases e';rw[<-cq,<-kjx] at X;exact X
 have Jb:Hid (∀k,wd ws k<18446744073709551616):=hid (fF HO.out);have hc24:(24:Int)<=(c:Int):=by omega
 have hc16:((c:Int)==16)=false:=by rw[kqi];omega
 have hc16n:(c==16)=false:=by rw[kqi];omega
 have hne:¬ c=16:=by omega
 clear I f;go_enter func102,ntmps102;go_wp2_with fail;refine (aE _ ws.length c _ hm).mono ?_;rintro e w1 ⟨rfl,rfl⟩;rw[HI.out];go_wp2_with fail;go_loopw [20] (λi wr=>∃k:Nat,k<=8/\i=.int .i64 k/\Hid (okTo ws k)/\Bx wr w.heap.size 107 #[.int .i64 0,.int .i64 0,.int .i64 0]/\Bx wr (w.heap.size+1) 226 (sm ws k)/\Below w.heap.size w wr) (λi _=>8-(intOf i).toNat)
 case atStart =>
  have x1:=Bx.new (w.alloc (.cells #[.int .i64 0,.int .i64 0,.int .i64 0] 107)) 226 #[.int .i64 0,.int .i64 0,.int .i64 0];rw[kqm] at x1;exact⟨0,kqy _,rfl,yf ws,J.out.alloc _,x1,((kql _ _).alloc (kqd _) _).alloc (by simp) _⟩
 obtain⟨k,hk,rfl,T,f,q,E⟩:=hrel;have hz:=E.size;by_cases N:k<8
 .have X:=HC.out k N _ E;have Jc:=Jb.out (16+k);have g:=hid (λh=>AF T.out h);have j:=hid (λh=>xC HS.out (C7 N h));have d:=hid (λh=>Bh ws (k:=k) h);have p:=hid (λh=>xQ ws (k:=k) h);have m:=hid (λh=>wx ws (k:=k) h);obtain⟨x,M⟩:=xq (wd ws (16+k));rw[M] at X Jc g j d;have hk1:(k:Int)<8:=by omega
  have hk0:(0:Int)<=(k:Int):=by omega
  have hx1:(0:Int)<=(x:Int):=by omega
  clear M;by_cases D:k<3
  .have Ja:decide ((k:Int)<3)=true:=by rw[kqn];omega
   have R:decide (k<3)=true:=by rw[kqn];omega
   obtain⟨u,hu⟩:=m.out D;by_cases B:x<=ws.length
   .have Eq:decide ((x:Int)<=(ws.length:Int))=true:=by rw[kqn];omega
    have V:decide (x<=ws.length)=true:=by rw[kqn];omega
    have HY:=hid (g.out ⟨λ_=>B,λh=>absurd h (by omega)⟩);have HZ:=hid (d.out D);have Y:=(q.cell k).trans hu;have Z:=q.frozen k;have s:=hid f;have B1:=hid q;have hxw:IntKind.i64.wrap (x:Int)=(x:Int):=kqs _ (by omega);clear g j d p m f q hu B;go_wp2;go_roundw
    case rel=>exact⟨k+1,by omega,by go_num,HY.out,s.out.far (by simp) _,by rw[<-HZ.out];exact B1.out.set_ k _,E.setCell (by simp) _⟩
    case measure=>simp[intOf];omega
   have Eq:decide ((x:Int)<=(ws.length:Int))=false:=by rw[kqh];omega
   have V:decide (x<=ws.length)=false:=by rw[kqh];exact B
   have l:=hid (j.out (.inl ⟨D,by omega⟩));have s:=hid f;obtain⟨c0,Y,c2,f0,Z,f2,L⟩:=f.c3;clear g j d p m f q hu B;go_wp2_with fail;refine kqr (v:=.tuple #[.agg #[.int .i64 0,.int .i64 0,.int .i64 0],.int .i64 50]) (bp results102 _ (((s.out.set_ 0 _).set_ 1 _).set_ 2 _) rfl rfl) rfl ⟨by rw[l.out.1,l.out.2];rfl,((E.setCell (by simp) _).setCell (by simp) _).setCell (by simp) _⟩
  have Ja:decide ((k:Int)<3)=false:=by rw[kqh];omega
  have R:decide (k<3)=false:=by rw[kqh];omega
  by_cases a:x=0
  .have Jd:((x:Int) != 0)=false:=by rw[kqq];omega
   have P:(x != 0)=false:=by rw[kqq];exact a
   have HY:=hid (g.out ⟨λh=>absurd h D,λ_=>a⟩);have HZ:=hid (p.out (by omega));have s:=hid f;have B1:=hid q;clear g j d p m f q a;go_wp2;go_roundw
   case rel=>exact⟨k+1,by omega,by go_num,HY.out,s.out,by rw[HZ.out];exact B1.out,E⟩
   case measure=>simp[intOf];omega
  have Jd:((x:Int) != 0)=true:=by rw[kqv];omega
  have P:(x != 0)=true:=by rw[kqv];exact a
  have l:=hid (j.out (.inr ⟨by omega,a⟩));have s:=hid f;obtain⟨c0,Y,c2,f0,Z,f2,L⟩:=f.c3;clear g j d p m f q a;go_wp2_with fail;refine kqr (v:=.tuple #[.agg #[.int .i64 0,.int .i64 0,.int .i64 0],.int .i64 50]) (bp results102 _ (((s.out.set_ 0 _).set_ 1 _).set_ 2 _) rfl rfl) rfl ⟨by rw[l.out.1,l.out.2];rfl,((E.setCell (by simp) _).setCell (by simp) _).setCell (by simp) _⟩
 obtain rfl:k=8:=by omega
 have U:=hid (yq T.out);obtain⟨⟨l0,l1,l2⟩,-⟩:=(bt ws).1 U.out;have t:=hid (λW=>CW (wd ws 16) (wd ws 17) (wd ws 18) W (by omega) (by omega) (by omega));have K:=hid (λh=>Dy HS.out h);have F:=hid (λh=>xD HS.out U.out h);have S:Bx wr (w.heap.size+1) 226 #[.int .i64 (wd ws 16:Int),.int .i64 (wd ws 17:Int),.int .i64 (wd ws 18:Int)]:=q;obtain⟨c0,Y,c2,-⟩:=S.c3;obtain⟨q0,q1,q2,f0,Z,f2,L⟩:=f.c3;unfold phV at t F;obtain⟨x,M⟩:=xq (wd ws 16);obtain⟨y,hy⟩:=xq (wd ws 17);obtain⟨z,H⟩:=xq (wd ws 18);rw[M,hy,H] at t K F;rw[M] at c0;rw[hy] at Y;rw[H] at c2;have s:=hid f;have HB:=hid E;clear f q S l0 l1 l2 M hy H;obtain⟨r,O⟩:=xq (sd x y z);rw[O] at t K F;clear O;go_wp2_with fail;refine (t.out _).mono ?_;rintro e w2 ⟨rfl,G⟩;rw[kqm] at G;have C:=av G;have b3:=hid (s.out.up C L);have n3:=Bx.of_new G;obtain⟨q0,q1,q2,f0,Z,f2,hgl2⟩:=b3.out.c3;obtain⟨n0,n1,n2,-⟩:=n3.c3;have Q:=hid (HB.out.trans (C.mono HB.out.size));clear G C n3;by_cases o:r=0
 .have l:=hid (F.out o);subst o;go_wp2_with fail;refine kqr (v:=.tuple #[.agg #[.int .i64 (x:Int),.int .i64 (y:Int),.int .i64 (z:Int)],.int .i64 0]) (bp results102 _ (((b3.out.set_ 0 _).set_ 1 _).set_ 2 _) rfl rfl) rfl ⟨by rw[l.out.1,l.out.2],((Q.out.setCell (by simp) _).setCell (by simp) _).setCell (by simp) _⟩
 have l:=hid (K.out o);have hrn:(r != 0)=true:=by rw[kqv];exact o
 clear o;go_wp2_with fail;refine kqr (v:=.tuple #[.agg #[.int .i64 0,.int .i64 0,.int .i64 0],.int .i64 50]) (bp results102 _ (((b3.out.set_ 0 _).set_ 1 _).set_ 2 _) rfl rfl) rfl ⟨by rw[l.out.1,l.out.2];rfl,((Q.out.setCell (by simp) _).setCell (by simp) _).setCell (by simp) _⟩
def noAt (l:List Bk) (f:Nat) (k:Nat):Prop:=∀j,j<k->(gk l j).at_≠(f:Int)
theorem zl(l:List Bk)(f:Nat):noAt l f 0:=λj h=>absurd h (by omega)
theorem Co(h:noAt l f k)(h2:(gk l k).at_≠(f:Int)):noAt l f (k+1):=λj hj=>by
 rcases kq6 j k with a|a
 .exact h j a
 .have:j=k:=by omega
  subst this;exact h2
theorem bd_no(hs:aj (ws.length:Int)=true)(h:bQ ws 128≠0)(f:Nat):nR ws f=false:=by
 unfold nR;cases a:blocks ws 128 with
 | none=>rfl
 | some l=>exact absurd (cF hs (gQ hs) a).1 h
theorem bd_at(hb:blocks ws 128=some l)(hk:k<l.length)(h:(gk l k).at_=(f:Int)):nR ws f=true:=by unfold nR;rw[hb];simp only[kxv,kx1];refine .inl ⟨l[k],kqp hk,?_⟩;rw[bN l k hk] at h;rw[kqw];exact h
theorem bd_end(hb:blocks ws 128=some l)(h:noAt l f l.length):nR ws f=(f==ws.length):=by
 unfold nR;rw[hb];have:l.any (λb=>b.at_==(f:Int))=false:=by rw[kj5];intro b c;obtain⟨k,a,rfl⟩:=kqz c;have:=h k a;rw[bN l k a] at this;rw[kqw];exact this
 show (l.any (λb=>b.at_==(f:Int))||f==ws.length)=_;rw[this,Bool.false_or]
theorem wC(A:Option Addr)(ws:List Nat)(c n f:Nat)(w:World)(hn:ws.length=n)(hs:aj (n:Int)=true)(hr:RdW w w.heap.size A ws)(ho:∀x∈ws,x<18446744073709551616):
 Calls prog 103 #[.slice A n c,.int .i64 (f:Int)] w λe w'=>e=.returned (.bool (nR ws f))/\Below w.heap.size w w':=by
 subst hn;have E:=gJ ws hs;have B:=hid (lU A ws c ws.length 128 w rfl (by omega) hr ho);unfold pG at B;have m:=hid (λh=>bd_no hs h f);have d:Hid (bQ ws 128=0->blocks ws 128=some (aN ws 128)):=hid λh=>(yr h).2;have y:=gO ws 128;obtain⟨r,p⟩:=xq (bQ ws 128);obtain⟨l,D⟩:=xq (aN ws 128);rw[p,D] at B d;rw[D] at y;rw[p] at m;clear p D hr ho hs E;by_cases j:r=0
 .subst j;have G:=hid (λk (h:k<l.length) X=>bd_at (d.out rfl) h X (f:=f));have F:=hid (λh=>bd_end (d.out rfl) (f:=f) h);clear m d;go_enter func103,ntmps103;go_wp2_with fail;refine B.out.mono ?_;rintro e I ⟨⟨W,V,rfl,u,-⟩,g⟩;have v:=g.size;have K:=hid u;clear u;go_wp2_with fail;go_loopw [18] (λi wr=>∃k:Nat,k<=l.length/\i=.int .i64 k/\Hid (noAt l f k)/\Below I.heap.size I wr) (λi _=>l.length-(intOf i).toNat)
  case atStart=>exact⟨0,kqy _,rfl,zl l f,kql _ _⟩
  obtain⟨k,hk,rfl,R,s⟩:=hrel;have T:=s.size;by_cases o:k<l.length
  .obtain ⟨b,off,rfl,hbw,P,O,L,N,S,M⟩:=RdB.at_ (K.out.below s) o;have C:=hid (λh=>Co R.out h);have z:=hid (λh=>G.out k o h);rw[bN l k o] at C z;obtain⟨x,Q⟩:=xq (l[k]);rw[Q] at P O L N S M C z;obtain⟨J,xs,xk,xt,xm,xn⟩:=x;dsimp only at P O L N S M C z;have hlm:(k:Int)<(l.length:Int):=by omega
   clear Q;by_cases a:J=(f:Int)
   .have U:(J==(f:Int))=true:=by rw[kqw];exact a
    have q:=hid (z.out a);clear a;go_wp2;go_ret;exact⟨by rw[q.out];rfl,g.trans ((s.alloc T _).mono v)⟩
   have U:(J==(f:Int))=false:=by rw[kqi];exact a
   have q:=hid (C.out a);clear a;go_wp2;go_roundw
   case rel=>exact⟨k+1,by omega,by go_num,q.out,s.alloc T _⟩
   case measure=>simp[intOf];omega
  have q:=hid (F.out (by have:=R.out;rwa [show k=l.length by omega] at this));have t:((f:Int)==(ws.length:Int))=(f==ws.length):=by rw[kzg,kqw,kqw];omega
  have H:=hid t;clear t;go_wp2;go_ret;exact⟨by rw[q.out,<-H.out];rfl,g.trans (s.mono v)⟩
 have hn1:(r != 0)=true:=by rw[kqv];exact j
 have q:=hid (m.out j);clear j m d;go_enter func103,ntmps103;go_wp2_with fail;refine B.out.mono ?_;rintro e I ⟨⟨W,V,rfl,-,-⟩,g⟩;go_wp2;go_ret;exact⟨by rw[q.out];rfl,g⟩
theorem tK(h:cA ws=r)(h0:r≠0):cM ws=r/\lnV ws=phV 0 0 0:=by subst h;simp[cM,lnV,h0]
theorem CC(h:cA ws=0)(h1:wd ws 16=3)(h2:wd ws 17≠0)(h3:nR ws (wd ws 17)=false):cM ws=50/\lnV ws=phV 0 0 0:=by simp[cM,lnV,h,h1,h2,h3]
theorem DX(h:cA ws=0)(h3:wd ws 16=3->wd ws 17≠0->nR ws (wd ws 17)=true):cM ws=0/\lnV ws=phV (wd ws 16) (wd ws 17) (wd ws 18):=by
 have:cM ws=0:=by unfold cM;rw[if_pos h,if_neg];rintro ⟨a,b,c⟩;rw[h3 a b] at c;cases c
 simp[lnV,this]
theorem tP(A:Option Addr)(ws:List Nat)(c n:Nat)(w:World)(hn:ws.length=n)(hm:n<=9223372036854775807)(hc:n<=c)(D:RdW w w.heap.size A ws)(ho:∀x∈ws,x<18446744073709551616):
 Calls prog 55 #[.slice A n c] w λe w'=>e=.returned (.tuple #[lnV ws,.int .i64 (cM ws)])/\Below w.heap.size w w':=by
 subst hn;have HR:=hid D;have HO:=hid ho;clear D ho;have b0:=Bx.new w 107 #[.int .i64 0,.int .i64 0,.int .i64 0];cases L:aj (ws.length:Int)
 .have F:=hid (bD L);have l:=hid (tK (rU L).1 (by omega));have k:=hid b0;clear L b0;go_enter func55,ntmps55;go_wp2_with fail;refine (aE A ws.length c _ hm).mono ?_;rintro e m ⟨rfl,rfl⟩;rw[F.out];go_wp2_with fail;refine kqr (v:=.tuple #[.agg #[.int .i64 0,.int .i64 0,.int .i64 0],.int .i64 8]) (bp results55 _ k.out rfl rfl) rfl ⟨by rw[l.out.1,l.out.2];rfl,(kql _ _).alloc (kqd _) _⟩
 have F:=hid (aX L);have HS:=hid L;have t:=hid (FJ A ws c ws.length (w.alloc (.cells #[.int .i64 0,.int .i64 0,.int .i64 0] 107)) rfl hm hc ((HR.out.alloc (kqd _) _).more (by simp)) HO.out);rw[kqm] at t;have G:Hid (∀r,cA ws=r->r≠0->cM ws=r/\lnV ws=phV 0 0 0):=hid λr h h0=>tK h h0;have C:=qB ws;clear L b0;by_cases i:cA ws=0
 .have p:=hid (λZ X h3=>CC i Z X h3);have f:=hid (λZ=>DX i Z);obtain⟨g1,g2⟩:=mj HS.out (by have:=(fU i).2;rw[this.1,this.2];rfl);rw[g1,g2] at t;have u:=hid (λW (h:RdW W W.heap.size A ws)=>wC A ws c ws.length (wd ws 17) W rfl HS.out h HO.out);unfold phV at t f;obtain⟨x,hx⟩:=xq (wd ws 16);obtain⟨y,V⟩:=xq (wd ws 17);obtain⟨z,hz⟩:=xq (wd ws 18);obtain⟨bd,Q⟩:=xq (nR ws y);rw[hx,V,hz] at t f;rw[hx,V] at p;rw[V] at u;rw[Q] at u p f;clear i g1 g2 hx V hz Q G C;have S:∀(m:World),Below (w.heap.size+1) (w.alloc (.cells #[.int .i64 0,.int .i64 0,.int .i64 0] 107)) m->RdW (m.alloc (.cells #[.int .i64 (x:Int),.int .i64 (y:Int),.int .i64 (z:Int)] 107)) (m.alloc (.cells #[.int .i64 (x:Int),.int .i64 (y:Int),.int .i64 (z:Int)] 107)).heap.size A ws:=λm h=>by
   have X:=av h;exact ((HR.out.up X X.size).alloc (kqd _) _).more (by simp)
  have k:=hid S;clear S;by_cases E:x=3
  .have e1:((x:Int)==3)=true:=by rw[kqw];omega
   have e1n:(x==3)=true:=by rw[kqw];exact E
   by_cases I:y=0
   .have e2:((y:Int) != 0)=false:=by rw[kqq];omega
    have Y:(y != 0)=false:=by rw[kqq];exact I
    have l:=hid (f.out (λ_ h=>absurd I h));clear p f E I;go_enter func55,ntmps55;go_wp2_with fail;refine (aE A ws.length c _ hm).mono ?_;rintro e m ⟨rfl,rfl⟩;rw[F.out];go_wp2_with fail;refine t.out.mono ?_;rintro e m ⟨rfl,a⟩;have q:=hid (k.out _ a);have g:=Bx.of_new a;have d:=av a;have B:=hid g;have b:=hid d;obtain⟨N,M,J,K,P,O,s⟩:=g.c3;clear a d g;go_wp2_with fail;exact kqr (v:=.tuple #[.agg #[.int .i64 (x:Int),.int .i64 (y:Int),.int .i64 (z:Int)],.int .i64 0]) (bp results55 _ ((((B.out.set_ 0 _).set_ 1 _).set_ 2 _).alloc _) rfl rfl) rfl ⟨by rw[l.out.1,l.out.2],(((b.out.setCell (kqd _) _).setCell (kqd _) _).setCell (kqd _) _).alloc (by simp;exact b.out.size) _⟩
   have e2:((y:Int) != 0)=true:=by rw[kqv];omega
   have Y:(y != 0)=true:=by rw[kqv];exact I
   cases bd
   .have l:=hid (p.out E I rfl);clear p f E I;go_enter func55,ntmps55;go_wp2_with fail;refine (aE A ws.length c _ hm).mono ?_;rintro e m ⟨rfl,rfl⟩;rw[F.out];go_wp2_with fail;refine t.out.mono ?_;rintro e m ⟨rfl,a⟩;have q:=hid (k.out _ a);have g:=Bx.of_new a;have d:=av a;have B:=hid g;have b:=hid d;obtain⟨N,M,J,K,P,O,s⟩:=g.c3;clear a d g;go_wp2_with fail;refine (u.out _ q.out).mono ?_;rintro e w2 ⟨rfl,j⟩;rw[kqm] at j;have T:=Bx.of_new j;have o:=av j;have R:=hid (B.out.up o s);have H:=hid (b.out.trans (o.mono b.out.size));obtain⟨N,M,J,K,P,O,U⟩:=R.out.c3;obtain⟨n0,n1,n2',-⟩:=T.c3;clear j o T;go_wp2_with fail;exact kqr (v:=.tuple #[.agg #[.int .i64 0,.int .i64 0,.int .i64 0],.int .i64 50]) (bp results55 _ (((R.out.set_ 0 _).set_ 1 _).set_ 2 _) rfl rfl) rfl ⟨by rw[l.out.1,l.out.2];rfl,((H.out.setCell (kqd _) _).setCell (kqd _) _).setCell (kqd _) _⟩
   have l:=hid (f.out (λ_ _=>rfl));clear p f E I;go_enter func55,ntmps55;go_wp2_with fail;refine (aE A ws.length c _ hm).mono ?_;rintro e m ⟨rfl,rfl⟩;rw[F.out];go_wp2_with fail;refine t.out.mono ?_;rintro e m ⟨rfl,a⟩;have q:=hid (k.out _ a);have g:=Bx.of_new a;have d:=av a;have B:=hid g;have b:=hid d;obtain⟨N,M,J,K,P,O,s⟩:=g.c3;clear a d g;go_wp2_with fail;refine (u.out _ q.out).mono ?_;rintro e w2 ⟨rfl,j⟩;rw[kqm] at j;have T:=Bx.of_new j;have o:=av j;have R:=hid (B.out.up o s);have H:=hid (b.out.trans (o.mono b.out.size));obtain⟨N,M,J,K,P,O,U⟩:=R.out.c3;obtain⟨n0,n1,n2',-⟩:=T.c3;clear j o T;go_wp2_with fail;exact kqr (v:=.tuple #[.agg #[.int .i64 (x:Int),.int .i64 (y:Int),.int .i64 (z:Int)],.int .i64 0]) (bp results55 _ (((R.out.set_ 0 _).set_ 1 _).set_ 2 _) rfl rfl) rfl ⟨by rw[l.out.1,l.out.2],((H.out.setCell (kqd _) _).setCell (kqd _) _).setCell (kqd _) _⟩
  have e1:((x:Int)==3)=false:=by rw[kqi];omega
  have e1n:(x==3)=false:=by rw[kqi];exact E
  have l:=hid (f.out (λh=>absurd h E));clear p f E;go_enter func55,ntmps55;go_wp2_with fail;refine (aE A ws.length c _ hm).mono ?_;rintro e m ⟨rfl,rfl⟩;rw[F.out];go_wp2_with fail;refine t.out.mono ?_;rintro e m ⟨rfl,a⟩;have q:=hid (k.out _ a);have g:=Bx.of_new a;have d:=av a;have B:=hid g;have b:=hid d;obtain⟨N,M,J,K,P,O,s⟩:=g.c3;clear a d g;go_wp2_with fail;exact kqr (v:=.tuple #[.agg #[.int .i64 (x:Int),.int .i64 (y:Int),.int .i64 (z:Int)],.int .i64 0]) (bp results55 _ ((((B.out.set_ 0 _).set_ 1 _).set_ 2 _).alloc _) rfl rfl) rfl ⟨by rw[l.out.1,l.out.2],(((b.out.setCell (kqd _) _).setCell (kqd _) _).setCell (kqd _) _).alloc (by simp;exact b.out.size) _⟩
 obtain⟨r,D⟩:=xq (cA ws);have l:=hid (G.out r D (by rw[<-D];exact i));have hv:prV ws=phV 0 0 0:=by simp[prV,i]
 rw[D,hv] at t;rw[D] at i C;have hn1:(r != 0)=true:=by rw[kqv];exact i
 unfold phV at t;have k:Hid (∀m:World,Below (w.heap.size+1) (w.alloc (.cells #[.int .i64 0,.int .i64 0,.int .i64 0] 107)) m->True):=hid λ_ _=>trivial;clear i D G hv;go_enter func55,ntmps55;go_wp2_with fail;refine (aE A ws.length c _ hm).mono ?_;rintro e m ⟨rfl,rfl⟩;rw[F.out];go_wp2_with fail;refine t.out.mono ?_;rintro e m ⟨rfl,a⟩;have q:=hid (k.out _ a);have g:=Bx.of_new a;have d:=av a;have B:=hid g;have b:=hid d;obtain⟨N,M,J,K,P,O,s⟩:=g.c3;clear a d g;go_wp2_with fail;exact kqr (v:=.tuple #[.agg #[.int .i64 0,.int .i64 0,.int .i64 0],.int .i64 r]) (bp results55 _ ((((B.out.set_ 0 _).set_ 1 _).set_ 2 _).alloc _) rfl rfl) rfl ⟨by rw[l.out.1,l.out.2];rfl,(((b.out.setCell (kqd _) _).setCell (kqd _) _).setCell (kqd _) _).alloc (by simp;exact b.out.size) _⟩
theorem Io(h:aB (wd ws i)=false):mdOk ws i=false:=by unfold mdOk;rw[h,kxw]
theorem DI(h:aB (wd ws i)=true):mdOk ws i=((ar (wd ws i)).kind==1&&(!(ar (wd ws i)).mark&&cZ ws (ar (wd ws i)))):=by unfold mdOk;rw[h,kzr]
theorem FT{x:Nat}(h:aB x=true)(hk:(ar x).kind=1):(ar x).typ<8:=by unfold aB at h;simp only[kqt] at h;have:=(bA _).1 h.1;omega
theorem Ia(A:Option Addr)(ws:List Nat)(c n t:Nat)(w:World)(hn:ws.length=n)(hm:n<=1000000)(h2:256<=n)(ht:t<=n)(hr:RdW w w.heap.size A ws)(ho:∀x∈ws,x<18446744073709551616):
 Calls prog 160 #[.slice A n c,.int .i64 (t:Int)] w λe w'=>e=.returned (.bool (mvd ws 128 t))/\Below w.heap.size w w':=by
 subst hn;have HR:=hid hr;have Ja:Hid (∀k,wd ws k<18446744073709551616):=hid (fF ho);obtain⟨b,F,rfl,hb,-⟩:=RdW.at_ hr (show 0<ws.length by omega);have Jb:Hid (∀k (h:k<ws.length) (W:World),Below w.heap.size w W->W.cell? ⟨b,F+k,none⟩=some (.int .u64 (wd ws k:Int))):=hid λk h W Q=>by
  obtain⟨b',off',e',-,h0⟩:=RdW.at_ (Rd.below HR.out Q) h;cases e';rw[<-cq] at h0;exact h0
 have Ka:=hid (λxa xs E (t:Nat) xm xn=>uY ws xa xs E t xm xn);clear hr ho;obtain⟨V,hV⟩:=xq (mvd ws 128 t);have HV:=hid hV;rw[hV];clear hV;go_enter func160,ntmps160;go_wp2_with fail;go_loopw [5] (λa wr=>∃i:Nat,128<=i/\i<=1000020/\a=.int .i64 i/\Hid (V=mvd ws i t)/\Below w.heap.size w wr) (λa _=>t-(intOf a).toNat)
 case atStart=>exact⟨128,by omega,by omega,rfl,hid HV.out.symm,kql _ _⟩
 obtain⟨i,hi,hi2,rfl,U,Q⟩:=hrel;have hz:=Q.size;by_cases L:i<t
 .have j:=hid (λh=>sI (ws:=ws) (t:=t) L h);have M:=hid (λh=>kY (ws:=ws) (t:=t) L h);have P:=hid (λh=>Io (ws:=ws) (i:=i) h);have O:=hid (λh=>DI (ws:=ws) (i:=i) h);have J:=hid (λh hk=>FT (x:=wd ws i) h hk);have g:=hid (λW=>mI (wd ws i) W (Ja.out i));have p0:=Jb.out i (by omega) _ Q;have hit:(i:Int)<(t:Int):=by omega
  have hi0:(0:Int)<=(i:Int):=by omega
  have hin:(i:Int)<(ws.length:Int):=by omega
  have D:Hid (szAt ws i=(ar (wd ws i)).size.toNat):=hid rfl;have N:Hid (0<=(ar (wd ws i)).size/\(ar (wd ws i)).size<=65535/\0<=(ar (wd ws i)).typ):=hid (by
   have h1:wd ws i/65536%65536<65536:=kz0 _ (by omega);unfold ar;dsimp only;omega)
  have Kc:=hid (λh=>lh (ws:=ws) (i:=i) h);obtain⟨x,hx⟩:=xq (wd ws i);rw[hx] at p0 P O J g D N;clear hx;cases G:aB x
  .rw[(lM G).1,(lM G).2] at g;unfold mf Bk.val at g;dsimp only at g;have C:=hid (U.out.trans (j.out (P.out G)));clear G j M P O J;go_wp2_with fail;refine (g.out _).mono ?_;rintro e v ⟨rfl,l⟩;have f:=Q.trans (l.mono hz);go_wp2;go_ret;exact⟨by rw[C.out];rfl,f.alloc f.size _⟩
  have HSO:=hid G;rw[(lS G).1,(lS G).2] at g;have d:=hid (O.out G);have s:=hid (λhk=>J.out G hk);clear G P O J;obtain⟨y,hy⟩:=xq (ar x);have Jj:y.at_=0/\y.next=0:=by rw[<-hy];exact⟨rfl,rfl⟩
  rw[hy] at g d s D N;clear hy;obtain⟨xa,xs,E,xt,xm,xn⟩:=y;dsimp only at Jj d s D N;obtain⟨rfl,rfl⟩:=Jj;unfold Bk.val at g;dsimp only at g;by_cases q:E=1
  .have ek:(E != 1)=false:=by rw[kqq];exact q
   have ek2:(E==1)=true:=by rw[kqw];exact q
   have ht8:=s.out q;obtain⟨r1,r2,r3⟩:=N.out;obtain⟨u,rfl⟩:=kq1 r3;obtain⟨sz,rfl⟩:=kq1 r1;rw[kqj] at D;rw[ek2,kzr] at d;clear q s r1 r3;cases xm
   .rw[kvp,kzr,Ka.out] at d;have Jf:=Ja.out (96+2*u);have Jg:=Ja.out (96+2*u+1);have HC:=hid (λW=>pA (wd ws (96+2*u)) (wd ws (96+2*u+1)) W Jf Jg);have HK:=hid (mF (wd ws (96+2*u)) (wd ws (96+2*u+1)));have Z:=kR (wd ws (96+2*u)) (wd ws (96+2*u+1));have S:=hid (nr (wd ws (96+2*u)) (wd ws (96+2*u+1)));have Ju:=hid (Jb.out (96+2*u) (by omega));have Js:=hid (Jb.out (96+2*u+1) (by omega));obtain⟨I,Jp⟩:=xq (wd ws (96+2*u));obtain⟨H,Je⟩:=xq (wd ws (96+2*u+1));rw[Jp] at Ju HC HK S Z d;rw[Je] at Js HC HK S Z d;clear Jp Je Jf Jg;have t0:(0:Int)<=(u:Int):=by omega
    have v:IntKind.i64.wrap (2*(u:Int))=2*(u:Int):=kqs _ (by omega);have w2:IntKind.i64.wrap (96+2*(u:Int))=96+2*(u:Int):=kqs _ (by omega);have w3:IntKind.i64.wrap (96+2*(u:Int)+1)=96+2*(u:Int)+1:=kqs _ (by omega);have i1:(0:Int)<=96+2*(u:Int):=by omega
    have i2:(96:Int)+2*(u:Int)<(ws.length:Int):=by omega
    have i3:(0:Int)<=96+2*(u:Int)+1:=by omega
    have i4:(96:Int)+2*(u:Int)+1<(ws.length:Int):=by omega
    have n1:((96:Int)+2*(u:Int)).toNat=96+2*u:=by omega
    have n2:((96:Int)+2*(u:Int)+1).toNat=96+2*u+1:=by omega
    go_wp2_with fail;refine (g.out _).mono ?_;rintro e v ⟨rfl,l⟩;have f:=Q.trans (l.mono hz);have B:=f.alloc f.size (.cells #[.int .i64 0,.int .i64 (sz:Int),.int .i64 E,.int .i64 (u:Int),.bool false,.int .u64 ((0:Nat):Int)] 55);have bx:=Bx.new v 55 #[.int .i64 0,.int .i64 (sz:Int),.int .i64 E,.int .i64 (u:Int),.bool false,.int .u64 ((0:Nat):Int)];have Y:(v.alloc (.cells #[.int .i64 0,.int .i64 (sz:Int),.int .i64 E,.int .i64 (u:Int),.bool false,.int .u64 ((0:Nat):Int)] 55)).heap.size=v.heap.size+1:=by simp
    have hw1:=f.size;simp only[kq7] at bx B Y;clear p0 l f;go_wp2_with fail;obtain⟨W0,Ji⟩:∃W0,v.alloc (.cells #[.int .i64 0,.int .i64 (sz:Int),.int .i64 E,.int .i64 (u:Int),.bool false,.int .u64 0] 55)=W0:=⟨_,rfl⟩;rw[Ji] at bx B Y |-;clear Ji;have h0:=Ju.out _ B;have h1:=Js.out _ B;have b3:W0.cell? ⟨v.heap.size,3,none⟩=some (.int .i64 (u:Int)):=bx.cell 3;have Jh:b<W0.heap.size:=by omega
    have Jm:v.heap.size<W0.heap.size:=by omega
    have BX:=hid bx;have Jv:=hid B;clear bx B Y
    go_region_held3 (λX:World=>X.cell? ⟨b,F+(96+2*u),none⟩=some (.int .u64 (I:Int))/\X.cell? ⟨b,F+(96+2*u+1),none⟩=some (.int .u64 (H:Int))/\X.cell? ⟨v.heap.size,3,none⟩=some (.int .i64 (u:Int))) (go_keep)
     (first | (go_at_call 117;refine (HC.out _).mono ?_;rintro e w5 ⟨⟨A1,c1,rfl,Jo,Kb⟩,K⟩;have m0:=(K.cell (p:=⟨b,F+(96+2*u),none⟩) Jh).trans h0;have m1:=(K.cell (p:=⟨b,F+(96+2*u+1),none⟩) Jh).trans h1;have m2:=(K.cell (p:=⟨v.heap.size,3,none⟩) Jm).trans b3;have Jy:=hid Jo;have Jt:=hid K;clear Jo Kb))
    have Jc:=sj A1 (a8 I H) c1 (a8 I H).length w5.heap.size w5 rfl (by omega) Jy.out;have Jk:kSz (a8 I H)=aY (a8 I H).length:=by simp[kSz,S.out]
    rw[S.out,Jk] at Jc;have o:=hid Jc;have c1x:w5.cell? ⟨v.heap.size,1,none⟩=some (.int .i64 (sz:Int)):=(Jt.out.cell (p:=⟨v.heap.size,1,none⟩) Jm).trans (BX.out.cell 1);have Jd:=hid (Jv.out.trans ((kql _ _).drew.trans (Jt.out.mono (by show _<=W0.heap.size;omega))));obtain⟨m,Jl⟩:=xq ((a8 I H).length);rw[Jl] at d o Z |-;have Jz:aY m<=10:=by unfold aY;omega
    obtain⟨z,Jr⟩:=xq (aY m);rw[Jr] at o d Jz;have T:Hid (eJ I H=if ch I H=true then 0 else 50):=hid rfl;obtain⟨r,hr⟩:=xq (eJ I H);obtain⟨ok,Jq⟩:=xq (ch I H);rw[hr] at T HK |-;rw[Jq] at T d HK;clear hr Jq Jc Jk Jl Jr m0 m1 m2 h0 h1 b3;cases ok
    .obtain rfl:r=50:=T.out;have C:=hid (U.out.trans (j.out (by rw[d.out,kxw])));go_wp2_with fail;refine o.out.mono ?_;rintro e w6 ⟨rfl,rfl⟩;go_wp2;go_ret;exact⟨by rw[C.out];rfl,Jd.out⟩
    obtain rfl:r=0:=T.out;rw[kzr] at d;by_cases R:sz=z
    .have ez:((sz:Int) != (z:Int))=false:=by rw[kqq];omega
     have ezn:(sz != z)=false:=by rw[kqq];exact R
     have Eq:mdOk ws i=true:=by rw[d.out,kqw];omega
     have C:=hid (U.out.trans (M.out Eq));obtain⟨s2,-,s10⟩:=Kc.out Eq;rw[D.out] at C s2 s10;have hwr:IntKind.i64.wrap ((i:Int)+(sz:Int))=(i:Int)+(sz:Int):=kqs _ (by omega);clear R Eq;go_wp2_with fail;refine o.out.mono ?_;rintro e w6 ⟨rfl,rfl⟩;go_wp2;go_roundw
     case rel=>exact⟨i+sz,by omega,by omega,by rw[kjs],C.out,Jd.out⟩
     case measure=>simp[intOf];omega
    have ez:((sz:Int) != (z:Int))=true:=by rw[kqv];omega
    have ezn:(sz != z)=true:=by rw[kqv];exact R
    have C:=hid (U.out.trans (j.out (by rw[d.out,kqi];omega)));clear R;go_wp2_with fail;refine o.out.mono ?_;rintro e w6 ⟨rfl,rfl⟩;go_wp2;go_ret;exact⟨by rw[C.out];rfl,Jd.out⟩
   rw[kvs,kxw] at d;have C:=hid (U.out.trans (j.out d.out));clear d j M;go_wp2_with fail;refine (g.out _).mono ?_;rintro e v ⟨rfl,l⟩;have f:=Q.trans (l.mono hz);go_wp2;go_ret;exact⟨by rw[C.out];rfl,f.alloc f.size _⟩
  have ek:(E != 1)=true:=by rw[kqv];exact q
  have ek2:(E==1)=false:=by rw[kqi];exact q
  rw[ek2,kxw] at d;have C:=hid (U.out.trans (j.out d.out));clear d j M q;go_wp2_with fail;refine (g.out _).mono ?_;rintro e v ⟨rfl,l⟩;have f:=Q.trans (l.mono hz);go_wp2;go_ret;exact⟨by rw[C.out];rfl,f.alloc f.size _⟩
 have HE:=hid (U.out.trans (kj (ws:=ws) (i:=i) (t:=t) (by omega)));have hdl:decide ((i:Int)<(t:Int))=false:=by rw[kqh];omega
 have hdln:decide (i<t)=false:=by rw[kqh];exact L
 have Jw:Hid (((i:Int)==(t:Int))=(i==t)):=hid (by rw[kzg,kqw,kqw];omega);clear L;go_wp2;go_ret;exact⟨by rw[HE.out,<-Jw.out];rfl,Q⟩
theorem ED(h:cM ws=r)(h0:r≠0):aw ws=r:=by subst h;simp[aw,h0]
theorem lnV_no(h0:cM ws≠0):lnV ws=phV 0 0 0:=by simp[lnV,h0]
theorem DP(h:cM ws=0)(h4:wd ws 16=4)(hm:mvd ws 128 (wd ws 18)=false):aw ws=50:=by simp[aw,h,h4,hm]
theorem Ed(h:cM ws=0)(h4:wd ws 16=4)(hm:mvd ws 128 (wd ws 18)=true):aw ws=aW ws (wd ws 17:Nat) (wd ws 18:Nat):=by simp[aw,h,h4,hm]
theorem DE(h:cM ws=0)(h3:wd ws 16=3):aw ws=aW ws 128 128:=by simp[aw,h,h3]
theorem CP(h:cM ws=0)(h3:wd ws 16<3):aw ws=ah ws:=by unfold aw;rw[if_pos h,if_neg (by omega),if_neg (by omega)]
theorem un(A:Option Addr)(ws:List Nat)(c n:Nat)(w:World)(hn:ws.length=n)(hm:n<=9223372036854775807)(hc:n<=c)(J:RdW w w.heap.size A ws)(ho:∀x∈ws,x<18446744073709551616):
 Calls prog 101 #[.slice A n c] w λe w'=>e=.returned (.tuple #[lnV ws,.int .i64 (aw ws)])/\Below w.heap.size w w':=by
 subst hn;have HR:=hid J;have HO:=hid ho;clear J ho;have b0:=Bx.new w 107 #[.int .i64 0,.int .i64 0,.int .i64 0];have V:=hid (tP A ws c ws.length (w.alloc (.cells #[.int .i64 0,.int .i64 0,.int .i64 0] 107)) rfl hm hc ((HR.out.alloc (kqd _) _).more (by simp)) HO.out);rw[kqm] at V;by_cases h0:cM ws=0
 .obtain ⟨h1,h2⟩:=ix h0;obtain⟨hs,h3,h4⟩:=fU h1;obtain⟨⟨l0,l1,l2⟩,-⟩:=(bt ws).1 h3;have Jk:=gJ ws hs;have Jg:lnV ws=phV (wd ws 16) (wd ws 17) (wd ws 18):=by simp[lnV,h0]
  have Jo:wd ws 16<=4:=by rcases (cI _ _ _).1 h4 with h|h|h<;>omega
  have Jf:=hid (λW (h:RdW W W.heap.size A ws)=>Ia A ws c ws.length (wd ws 18) W rfl (by omega) (by omega) l2 h HO.out);have Jl:=hid (λ(f s:Int) hf hs W (h:RdW W W.heap.size A ws)=>pN A ws c ws.length f s W rfl hm hf hs h HO.out);have Jm:=hid (λW (h:RdW W W.heap.size A ws)=>mt A ws c ws.length W rfl hm h HO.out);have Jd:=hid h0;have O:=hid (λh4 hm=>DP Jd.out h4 hm);have L:=hid (λh4 hm=>Ed Jd.out h4 hm);have Eq:=hid (λh3=>DE Jd.out h3);have Y:=hid (λh3=>CP Jd.out h3);have Q:Hid (∀t:World,Below w.heap.size w t->RdW (t.alloc (.cells #[.int .i64 (wd ws 16:Int),.int .i64 (wd ws 17:Int),.int .i64 (wd ws 18:Int)] 107)) (t.alloc (.cells #[.int .i64 (wd ws 16:Int),.int .i64 (wd ws 17:Int),.int .i64 (wd ws 18:Int)] 107)).heap.size A ws):=hid λt h2=>((HR.out.up h2 h2.size).alloc (kqd _) _).more (by simp);rw[h0,Jg] at V;rw[Jg];unfold phV at V |-;have hlen2:ws.length<=2048:=Jk.2.1;clear h0 h1 h2 hs h3 h4 Jg b0 Jk;obtain⟨x,hx⟩:=xq (wd ws 16);obtain⟨y,hy⟩:=xq (wd ws 17);obtain⟨z,hz⟩:=xq (wd ws 18);rw[hx] at Jo;rw[hx,hy,hz] at V Q |-;rw[hx,hz] at O;rw[hx,hy,hz] at L;rw[hx] at Eq Y;rw[hz] at Jf l2;rw[hy] at l1;clear hx hy hz l0;by_cases x4:x=4
  .have e4:((x:Int)==4)=true:=by rw[kqw];omega
   have e4n:(x==4)=true:=by rw[kqw];exact x4
   obtain⟨m,Jh⟩:=xq (mvd ws 128 z);rw[Jh] at Jf O L;cases m
   .have K:=hid (O.out x4 rfl);clear O L Eq Y x4 Jh;go_enter func101,ntmps101;go_wp2_with fail;refine V.out.mono ?_;rintro e t ⟨rfl,b⟩;have a:=av b;have i:=hid (Q.out _ a);have I:=Bx.of_new b;have B1:=hid I;have k:=hid a;obtain⟨q0,q1,Z,T,f1,U,H⟩:=I.c3;clear b a I;go_wp2_with fail;have D:=Bx.new t 107 #[.int .i64 (x:Int),.int .i64 (y:Int),.int .i64 (z:Int)];have g:=k.out.alloc k.out.size (.cells #[.int .i64 (x:Int),.int .i64 (y:Int),.int .i64 (z:Int)] 107);have d:=B1.out.alloc (.cells #[.int .i64 (x:Int),.int .i64 (y:Int),.int .i64 (z:Int)] 107);obtain⟨l,C⟩:∃l,t.alloc (.cells #[.int .i64 (x:Int),.int .i64 (y:Int),.int .i64 (z:Int)] 107)=l:=⟨_,rfl⟩;rw[C] at D g d i |-;clear C q0 q1 Z T f1 U;have S:=D.lt;have Je:=d.lt;obtain⟨p0,p1,p2,-⟩:=D.c3;have BW:=hid D;have B:=hid g;have E:=hid d;clear D g d;go_quiet (fail);go_wp2_with fail;refine (Jf.out _ (show RdW (l.drewN _) (l.drewN _).heap.size A ws from i.out)).mono ?_;rintro e w2 ⟨rfl,Jb⟩;have o:=(jW (kql l.heap.size l) _).trans Jb;have BW2:=hid (BW.out.up o BW.out.lt);have Ja:=hid (E.out.up o E.out.lt);have Jc:=hid (B.out.trans (o.mono B.out.size));have Ji:=hid (i.out.up o o.size);obtain⟨p0,p1,p2,-⟩:=BW2.out.c3
    obtain⟨q0,q1,Z,T,f1,U,H⟩:=Ja.out.c3;clear Jb o;go_wp2_with fail;exact kqr (v:=.tuple #[.agg #[.int .i64 (x:Int),.int .i64 (y:Int),.int .i64 (z:Int)],.int .i64 50]) (bp results101 _ (((Ja.out.set_ 0 _).set_ 1 _).set_ 2 _) rfl rfl) rfl ⟨by rw[K.out],((Jc.out.setCell (kqd _) _).setCell (kqd _) _).setCell (kqd _) _⟩
   have K:=hid (L.out x4 rfl);have M:=hid (λW h=>Jl.out (y:Int) (z:Int) (by omega) (by omega) W h);unfold vD at M;obtain⟨r,J⟩:∃r,aW ws (y:Int) (z:Int)=r:=⟨_,rfl⟩;obtain⟨q,hq⟩:∃q,ic ws (y:Int) (z:Int)=q:=⟨_,rfl⟩;rw[J,hq] at M;rw[J] at K;clear O L Eq Y x4 Jh J hq;go_enter func101,ntmps101;go_wp2_with fail;refine V.out.mono ?_;rintro e t ⟨rfl,b⟩;have a:=av b;have i:=hid (Q.out _ a);have I:=Bx.of_new b;have B1:=hid I;have k:=hid a;obtain⟨q0,q1,Z,T,f1,U,H⟩:=I.c3;clear b a I;go_wp2_with fail;have D:=Bx.new t 107 #[.int .i64 (x:Int),.int .i64 (y:Int),.int .i64 (z:Int)];have g:=k.out.alloc k.out.size (.cells #[.int .i64 (x:Int),.int .i64 (y:Int),.int .i64 (z:Int)] 107);have d:=B1.out.alloc (.cells #[.int .i64 (x:Int),.int .i64 (y:Int),.int .i64 (z:Int)] 107);obtain⟨l,C⟩:∃l,t.alloc (.cells #[.int .i64 (x:Int),.int .i64 (y:Int),.int .i64 (z:Int)] 107)=l:=⟨_,rfl⟩;rw[C] at D g d i |-;clear C q0 q1 Z T f1 U;have S:=D.lt;have Je:=d.lt;obtain⟨p0,p1,p2,-⟩:=D.c3;have BW:=hid D;have B:=hid g;have E:=hid d;clear D g d;go_quiet (fail);go_wp2_with fail;refine (Jf.out _ (show RdW (l.drewN _) (l.drewN _).heap.size A ws from i.out)).mono ?_;rintro e w2 ⟨rfl,Jb⟩
   have o:=(jW (kql l.heap.size l) _).trans Jb;have BW2:=hid (BW.out.up o BW.out.lt);have Ja:=hid (E.out.up o E.out.lt);have Jc:=hid (B.out.trans (o.mono B.out.size));have Ji:=hid (i.out.up o o.size);obtain⟨p0,p1,p2,-⟩:=BW2.out.c3;obtain⟨q0,q1,Z,T,f1,U,H⟩:=Ja.out.c3;clear Jb o;go_wp2_with fail;refine (M.out _ Ji.out).mono ?_;rintro e w3 ⟨⟨A1,c1,rfl,-,-⟩,u⟩;have j:=(kql w2.heap.size w2).trans u;have N:=hid (BW2.out.up j BW2.out.lt);have F:=hid (Ja.out.up j Ja.out.lt);have R:=hid (Jc.out.trans (j.mono Jc.out.size));obtain⟨p0,p1,p2,-⟩:=N.out.c3;obtain⟨q0,q1,Z,T,f1,U,H⟩:=F.out.c3;clear u j;by_cases P:r=0
   .subst P;go_wp2_with fail;exact kqr (v:=.tuple #[.agg #[.int .i64 (x:Int),.int .i64 (y:Int),.int .i64 (z:Int)],.int .i64 0]) (bp results101 _ (((F.out.set_ 0 _).set_ 1 _).set_ 2 _) rfl rfl) rfl ⟨by rw[K.out],((R.out.setCell (kqd _) _).setCell (kqd _) _).setCell (kqd _) _⟩
   have Jj:(r != 0)=true:=by rw[kqv];exact P
   clear P;go_wp2_with fail;exact kqr (v:=.tuple #[.agg #[.int .i64 (x:Int),.int .i64 (y:Int),.int .i64 (z:Int)],.int .i64 r]) (bp results101 _ (((F.out.set_ 0 _).set_ 1 _).set_ 2 _) rfl rfl) rfl ⟨by rw[K.out],((R.out.setCell (kqd _) _).setCell (kqd _) _).setCell (kqd _) _⟩
  have e4:((x:Int)==4)=false:=by rw[kqi];omega
  have e4n:(x==4)=false:=by rw[kqi];exact x4
  by_cases x3:x=3
  .have e3:((x:Int)==3)=true:=by rw[kqw];omega
   have e3n:(x==3)=true:=by rw[kqw];exact x3
   have K:=hid (Eq.out x3);have M:=hid (λW h=>Jl.out 128 128 (by omega) (by omega) W h);unfold vD at M;obtain⟨r,J⟩:=xq (aW ws 128 128);obtain⟨q,hq⟩:=xq (ic ws 128 128);rw[J,hq] at M;rw[J] at K;clear O L Eq Y x4 x3 J hq;go_enter func101,ntmps101;go_wp2_with fail;refine V.out.mono ?_;rintro e t ⟨rfl,b⟩;have a:=av b;have i:=hid (Q.out _ a);have I:=Bx.of_new b;have B1:=hid I;have k:=hid a;obtain⟨q0,q1,Z,T,f1,U,H⟩:=I.c3;clear b a I;go_wp2_with fail;have D:=Bx.new t 107 #[.int .i64 (x:Int),.int .i64 (y:Int),.int .i64 (z:Int)];have g:=k.out.alloc k.out.size (.cells #[.int .i64 (x:Int),.int .i64 (y:Int),.int .i64 (z:Int)] 107);have d:=B1.out.alloc (.cells #[.int .i64 (x:Int),.int .i64 (y:Int),.int .i64 (z:Int)] 107);obtain⟨l,C⟩:∃l,t.alloc (.cells #[.int .i64 (x:Int),.int .i64 (y:Int),.int .i64 (z:Int)] 107)=l:=⟨_,rfl⟩;rw[C] at D g d i |-;clear C q0 q1 Z T f1 U;have S:=D.lt;have Je:=d.lt;obtain⟨p0,p1,p2,-⟩:=D.c3;have BW:=hid D;have B:=hid g;have E:=hid d;clear D g d;refine (M.out _ i.out).mono ?_;rintro e w3 ⟨⟨A1,c1,rfl,-,-⟩,u⟩;have j:=(kql l.heap.size l).trans u;have N:=hid (BW.out.up j BW.out.lt);have F:=hid (E.out.up j E.out.lt);have R:=hid (B.out.trans (j.mono B.out.size));obtain⟨p0,p1,p2,-⟩:=N.out.c3;obtain⟨q0,q1,Z,T,f1,U,H⟩:=F.out.c3;clear u j;by_cases P:r=0
   .subst P;go_wp2_with fail;exact kqr (v:=.tuple #[.agg #[.int .i64 (x:Int),.int .i64 (y:Int),.int .i64 (z:Int)],.int .i64 0]) (bp results101 _ (((F.out.set_ 0 _).set_ 1 _).set_ 2 _) rfl rfl) rfl ⟨by rw[K.out],((R.out.setCell (kqd _) _).setCell (kqd _) _).setCell (kqd _) _⟩
   have Jj:(r != 0)=true:=by rw[kqv];exact P
   clear P;go_wp2_with fail;exact kqr (v:=.tuple #[.agg #[.int .i64 (x:Int),.int .i64 (y:Int),.int .i64 (z:Int)],.int .i64 r]) (bp results101 _ (((F.out.set_ 0 _).set_ 1 _).set_ 2 _) rfl rfl) rfl ⟨by rw[K.out],((R.out.setCell (kqd _) _).setCell (kqd _) _).setCell (kqd _) _⟩
  have e3:((x:Int)==3)=false:=by rw[kqi];omega
  have e3n:(x==3)=false:=by rw[kqi];exact x3
  have K:=hid (Y.out (by omega));obtain⟨r,J⟩:=xq (ah ws);rw[J] at Jm K;clear O L Eq Y x4 x3 J;go_enter func101,ntmps101;go_wp2_with fail;refine V.out.mono ?_;rintro e t ⟨rfl,b⟩;have a:=av b;have i:=hid (Q.out _ a);have I:=Bx.of_new b;have B1:=hid I;have k:=hid a;obtain⟨q0,q1,Z,T,f1,U,H⟩:=I.c3;clear b a I;go_wp2_with fail;have D:=Bx.new t 107 #[.int .i64 (x:Int),.int .i64 (y:Int),.int .i64 (z:Int)];have g:=k.out.alloc k.out.size (.cells #[.int .i64 (x:Int),.int .i64 (y:Int),.int .i64 (z:Int)] 107);have d:=B1.out.alloc (.cells #[.int .i64 (x:Int),.int .i64 (y:Int),.int .i64 (z:Int)] 107);obtain⟨l,C⟩:∃l,t.alloc (.cells #[.int .i64 (x:Int),.int .i64 (y:Int),.int .i64 (z:Int)] 107)=l:=⟨_,rfl⟩;rw[C] at D g d i |-;clear C q0 q1 Z T f1 U;have S:=D.lt;have Je:=d.lt;obtain⟨p0,p1,p2,-⟩:=D.c3;have BW:=hid D;have B:=hid g;have E:=hid d;clear D g d;have G:t.heap.size≠w.heap.size:=by omega
  go_region_held3 (λX:World=>X.cell? ⟨t.heap.size,0,none⟩=some (.int .i64 (x:Int))/\X.cell? ⟨t.heap.size,1,none⟩=some (.int .i64 (y:Int))/\X.cell? ⟨t.heap.size,2,none⟩=some (.int .i64 (z:Int))) (first | exact⟨(((N.out.far G _).far G _).far G _).cell 0,(((N.out.far G _).far G _).far G _).cell 1,(((N.out.far G _).far G _).far G _).cell 2⟩ | go_keep)
   (first | (go_at_call 162;refine (Jm.out _ (show RdW l.drew l.drew.heap.size A ws from i.out)).mono ?_;rintro e w3 ⟨rfl,u⟩;have m0:=(u.cell (p:=⟨t.heap.size,0,none⟩) S).trans p0;have m1:=(u.cell (p:=⟨t.heap.size,1,none⟩) S).trans p1;have m2:=(u.cell (p:=⟨t.heap.size,2,none⟩) S).trans p2;have j:Below l.heap.size l w3:=(kql l.heap.size l).drew.trans u;have F:=hid (E.out.up j Je);have N:=hid (BW.out.up j S);have R:=hid (B.out.trans (j.mono B.out.size));clear u j;obtain⟨q0,q1,Z,T,f1,U,H⟩:=F.out.c3))
  go_wp2_with fail;exact kqr (v:=.tuple #[.agg #[.int .i64 (x:Int),.int .i64 (y:Int),.int .i64 (z:Int)],.int .i64 r]) (bp results101 _ (((F.out.set_ 0 _).set_ 1 _).set_ 2 _) rfl rfl) rfl ⟨by rw[K.out],((R.out.setCell (kqd _) _).setCell (kqd _) _).setCell (kqd _) _⟩
 have K:=hid (λr h=>ED (ws:=ws) (r:=r) h);rw[lnV_no h0] at V |-;obtain⟨r,J⟩:=xq (cM ws);rw[J] at V h0;have K:=hid (K.out r J h0);have Jj:(r != 0)=true:=by rw[kqv];exact h0
 unfold phV at V |-;simp only[kq7] at V |-;have Q:Hid (∀t:World,Below w.heap.size w t->True):=hid λ_ _=>trivial;clear h0 J b0;go_enter func101,ntmps101;go_wp2_with fail;refine V.out.mono ?_;rintro e t ⟨rfl,b⟩;have a:=av b;have i:=hid (Q.out _ a);have I:=Bx.of_new b;have B1:=hid I;have k:=hid a;obtain⟨q0,q1,Z,T,f1,U,H⟩:=I.c3;clear b a I;go_wp2_with fail;exact kqr (v:=.tuple #[.agg #[.int .i64 0,.int .i64 0,.int .i64 0],.int .i64 r]) (bp results101 _ ((((B1.out.set_ 0 _).set_ 1 _).set_ 2 _).alloc _) rfl rfl) rfl ⟨by rw[K.out],(((k.out.setCell (kqd _) _).setCell (kqd _) _).setCell (kqd _) _).alloc (by simp;exact k.out.size) _⟩
theorem mG(A:Option Addr)(ws:List Nat)(c n:Nat)(w:World)(hn:ws.length=n)(hm:n<=9223372036854775807)(hc:n<=c)(hr:RdW w w.heap.size A ws)(ho:∀x∈ws,x<18446744073709551616):
 Calls prog 52 #[.slice A n c] w λe w'=>e=.returned (.int .i64 (aw ws))/\Below w.heap.size w w':=by
 have d:=hid (un A ws c n w hn hm hc hr ho);have f:∃x y z:Nat,lnV ws=phV x y z:=by
  unfold lnV;split
  .exact ⟨_,_,_,rfl⟩
  exact⟨0,0,0,rfl⟩
 obtain⟨x,y,z,f⟩:=f;rw[f] at d;unfold phV at d;obtain⟨r,b⟩:=xq (aw ws);rw[b] at d |-;clear b f hr ho hn;go_enter func52,ntmps52;go_wp2_with fail;refine d.out.mono ?_;rintro e w1 ⟨rfl,a⟩;go_wp2;go_ret;exact⟨rfl,a.alloc a.size _⟩
theorem lfN_no(h:aw ws≠0):lfN ws=0:=by simp[lfN,h]
theorem Fw(h:wd ws 16<3):lfN ws=0:=by simp[lfN,h]
theorem Aj(h:aw ws=0)(h2:¬ wd ws 16<3):lfN ws=(eE (aN ws (gi ws))).length:=by unfold lfN;rw[if_pos h,if_neg h2]
theorem ky(h:aw ws=0):cM ws=0:=by
 unfold aw at h;split at h
 .assumption
 exact h
theorem vy(hk:k<l.length):(eE (l.take (k+1))).length=(eE (l.take k)).length+(if l[k].mark=true then 1 else 0):=by rw[rW hk,kqu];split<;>rfl
theorem Il(A:Option Addr)(ws:List Nat)(c n:Nat)(w:World)(hn:ws.length=n)(hm:n<=9223372036854775807)(hc:n<=c)(C:RdW w w.heap.size A ws)(ho:∀x∈ws,x<18446744073709551616):
 Calls prog 164 #[.slice A n c] w λe w'=>e=.returned (.tuple #[.int .i64 (lfN ws:Nat),.int .i64 (aw ws)])/\Below w.heap.size w w':=by
 subst hn;have p:=hid (un A ws c ws.length w rfl hm hc C ho);have HR:=hid C;have HO:=hid ho;clear C ho;by_cases o:aw ws=0
 .obtain ⟨h1,-⟩:=ix (ky o);obtain⟨hs,h3,h4⟩:=fU h1;obtain⟨⟨l0,l1,l2⟩,-⟩:=(bt ws).1 h3;have I:=gJ ws hs;have J:lnV ws=phV (wd ws 16) (wd ws 17) (wd ws 18):=by simp[lnV,ky o]
  have j:=hid (λh=>Fw (ws:=ws) h);have f:=hid (λh=>Aj o h);have t:=hid (λW (h:RdW W W.heap.size A ws)=>lU A ws c ws.length (gi ws) W rfl hm h HO.out);unfold pG at t;have V:=gO ws (gi ws);have s:Hid (gi ws=if (wd ws 17:Int)<128 then 128 else (wd ws 17:Int)):=hid rfl;have U:Hid (∀v:World,Below w.heap.size w v->RdW (v.alloc (.cells #[.int .i64 (wd ws 16:Int),.int .i64 (wd ws 17:Int),.int .i64 (wd ws 18:Int)] 107)) (v.alloc (.cells #[.int .i64 (wd ws 16:Int),.int .i64 (wd ws 17:Int),.int .i64 (wd ws 18:Int)] 107)).heap.size A ws):=hid λv h2=>((HR.out.up h2 h2.size).alloc (kqd _) _).more (by simp);rw[o,J] at p;rw[o];unfold phV at p;have hlen2:ws.length<=2048:=I.2.1;clear o h1 hs h3 h4 J I;obtain⟨x,D⟩:=xq (wd ws 16);obtain⟨y,Y⟩:=xq (wd ws 17);obtain⟨z,M⟩:=xq (wd ws 18);obtain⟨g,F⟩:=xq (gi ws);obtain⟨l,X⟩:=xq (aN ws g);obtain⟨r,C⟩:=xq (bQ ws g);obtain⟨N,hN⟩:=xq (lfN ws);rw[F,X,C] at t;rw[hN] at j f |-;rw[F,X] at f;rw[F,X] at V;rw[F,Y] at s;rw[D,Y,M] at p U;rw[D] at j f;rw[Y] at l1;clear D Y M F X C hN l0 l2;by_cases E:x<3
  .have hd:decide ((x:Int)<3)=true:=by rw[kqn];omega
   have Eq:decide (x<3)=true:=by rw[kqn];exact E
   have G:=hid (j.out E);clear j f E s;go_enter func164,ntmps164;go_wp2_with fail;refine p.out.mono ?_;rintro e v ⟨rfl,a⟩;go_wp2;go_ret2;exact⟨by rw[G.out];rfl,a.alloc a.size _⟩
  have hd:decide ((x:Int)<3)=false:=by rw[kqh];omega
  have Eq:decide (x<3)=false:=by rw[kqh];exact E
  have G:=hid (f.out E);clear j f E;go_enter func164,ntmps164;go_wp2_with fail;refine p.out.mono ?_;rintro e v ⟨rfl,a⟩;have Jc:=hid (U.out _ a);have Q:=hid a;clear a;go_wp2_with fail
  all_goals
   have S:Hid (∀q,g=q->∀W:World,RdW W W.heap.size A ws->Calls prog 65 #[.slice A ws.length c,.int .i64 q] W λe w'=>(∃A c,e=Ending.returned (.tuple #[.slice A l.length c,.int .i64 r])/\RdB w' w'.heap.size A l/\l.length<=c)/\Below W.heap.size W w'):=hid (λq hq=>by rw[<-hq];exact t.out);refine (S.out _ (by rw[s.out];first|rw[if_pos (by assumption)] | rw[if_neg (by omega)]) _ Jc.out).mono ?_;rintro e w2 ⟨⟨A1,c1,rfl,P,-⟩,B⟩;rw[kqm] at B;have K:=hid (Q.out.trans ((av B).mono Q.out.size));have Jb:=hid P;have Ja:=K.out.size;clear P B S;go_wp2_with fail;go_loopw [8,32] (λm i wr=>∃k:Nat,k<=l.length/\i=.int .i64 k/\m=.int .i64 ((eE (l.take k)).length:Nat)/\Below w2.heap.size w2 wr) (λ_ i _=>l.length-(intOf i).toNat)
   case atStart=>exact⟨0,kqy _,rfl,rfl,kql _ _⟩
   obtain⟨k,hk,rfl,rfl,R⟩:=hrel;have M:=R.size;by_cases H:k<l.length
   .obtain ⟨b,off,rfl,hbw,q0,q1,q2,q3,q4,q5⟩:=RdB.at_ (Jb.out.below R) H;have d:=hid (vy H);have O:=CR (l.take k);rw[kq3] at O;obtain⟨m,L⟩:=xq ((eE (l.take k)).length);rw[L] at d O |-;obtain⟨x',D⟩:∃x,l[k]=x:=⟨_,rfl⟩;rw[D] at q0 q1 q2 q3 q4 q5 d;obtain⟨xa,xs,xk,xt,xm,xn⟩:=x';dsimp only at q0 q1 q2 q3 q4 q5 d;have hlm:(k:Int)<(l.length:Int):=by omega
    have hmk:(m:Int)<=4611686018427387904:=by omega
    clear D L;cases xm
    .have u:=hid (d.out.trans (kz8 m));clear d;go_wp2;go_roundw
     case rel=>exact⟨k+1,by omega,by go_num,by rw[u.out],R.alloc M _⟩
     case measure=>simp[intOf];omega
    have u:=hid (show (eE (l.take (k+1))).length=m+1 from d.out);clear d;go_wp2;go_roundw
    case rel=>exact⟨k+1,by omega,by go_num,by rw[u.out];go_num,R.alloc M _⟩
    case measure=>simp[intOf];omega
   rw[kq5 (by omega)];rw[<-G.out];go_wp2;go_ret2;exact⟨rfl,K.out.trans (R.mono Ja)⟩
 have G:=hid (lfN_no o);have Z:∃x y z:Nat,lnV ws=phV x y z:=by
  unfold lnV;split
  .exact ⟨_,_,_,rfl⟩
  exact⟨0,0,0,rfl⟩
 obtain⟨x,y,z,Z⟩:=Z;rw[Z] at p;unfold phV at p;obtain⟨r,T⟩:=xq (aw ws);rw[T] at p o |-;have hrn:(r != 0)=true:=by rw[kqv];exact o
 clear T Z o;go_enter func164,ntmps164;go_wp2_with fail;refine p.out.mono ?_;rintro e v ⟨rfl,a⟩;go_wp2;go_ret2;exact⟨by rw[G.out];rfl,a.alloc a.size _⟩
end Go.Proofs.YtpcajamacpbjcaaGreat
