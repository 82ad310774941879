/- Texts laid together: PhP Ph Cur1 Mvd Ck Left. -/
import Derived.Test.YtpcajamacpbjcaaGreatZKHead
import Derived.Test.YtpcajamacpbjcaaGreatZKPlain
import Derived.Test.YtpcajamacpbjcaaGreatZKHeap
import Derived.Deep.RegionHeld3
import Derived.Deep.DrawnRows
import Derived.Laws.BitsLemmas
import Derived.Test.YtpcajamacpbjcaaGreatZKMove
set_option maxHeartbeats 16000000
set_option maxRecDepth 100000
set_option linter.all false
namespace Go.Proofs.YtpcajamacpbjcaaGreat
open Lib (hid)
variable {r:Int}{l:List Bk}{ws:List Nat}{f i k t:Nat}
open Go.Proofs.Tryz
def me (n:Nat):Bool:=decide (128<=n)&&(decide (n<=2048)&&n%2==0)
theorem a9(n:Nat):me n=true↔128<=n/\n<=2048/\n%2=0:=by simp[me]
def Ba (p f t:Nat):Bool:=if p=4 then me f&&(me t&&decide (t<=f)) else if t≠0 then false else if p=3 then f==0||me f else decide (p<3)&&f==0
theorem dd(p f t:Nat):Ba p f t=true↔p=4/\me f=true/\me t=true/\t<=f\/p=3/\t=0/\(f=0\/me f=true)\/p<3/\t=0/\f=0:=by
 unfold Ba;split
 .rename_i h;subst h;simp
 rename_i h4;split
 .rename_i h;simp[h4,h]
 rename_i h;have a:t=0:=by omega
 subst a;split
 .rename_i h3;subst h3;simp
 rename_i h3;simp[h4,h3]
def ji (ws:List Nat):Bool:=(decide (wd ws 16<=ws.length)&&(decide (wd ws 17<=ws.length)&&decide (wd ws 18<=ws.length)))&&(wd ws 19==0&&(wd ws 20==0&&(wd ws 21==0&&(wd ws 22==0&&wd ws 23==0))))
def cP (ws:List Nat):Int:=if ak (ws.length:Int)=true then (if (ji ws&&Ba (wd ws 16) (wd ws 17) (wd ws 18))=true then 0 else 50) else 8
def phV (p f t:Nat):Value:=.agg #[.int .i64 (p:Int),.int .i64 (f:Int),.int .i64 (t:Int)]
def prV (ws:List Nat):Value:=if cP ws=0 then phV (wd ws 16) (wd ws 17) (wd ws 18) else phV 0 0 0
theorem tP(h:ak (ws.length:Int)=false):cP ws=8/\prV ws=phV 0 0 0:=by simp[prV,cP,h]
theorem sL(h:ak (ws.length:Int)=true)(h2:(ji ws&&Ba (wd ws 16) (wd ws 17) (wd ws 18))=false):cP ws=50/\prV ws=phV 0 0 0:=by simp[prV,cP,h,h2]
theorem nt(h:ak (ws.length:Int)=true)(h2:(ji ws&&Ba (wd ws 16) (wd ws 17) (wd ws 18))=true):cP ws=0/\prV ws=phV (wd ws 16) (wd ws 17) (wd ws 18):=by simp[prV,cP,h,h2]
theorem gx(h:cP ws=0):ak (ws.length:Int)=true/\ji ws=true/\Ba (wd ws 16) (wd ws 17) (wd ws 18)=true:=by
 unfold cP at h;split at h
 .split at h
  .rename_i h1 h2;simp only[kqu] at h2;exact⟨h1,h2⟩
  simp at h
 simp at h
theorem ta(ws:List Nat):cP ws=0\/cP ws=8\/cP ws=50:=by
 unfold cP;split
 .split<;>simp
 simp
theorem bE(ws:List Nat):ji ws=true↔(wd ws 16<=ws.length/\wd ws 17<=ws.length/\wd ws 18<=ws.length)/\wd ws 19=0/\wd ws 20=0/\wd ws 21=0/\wd ws 22=0/\wd ws 23=0:=by simp[ji]
theorem Gz(hi:i<8)(h:i<3/\ws.length<wd ws (16+i)\/3<=i/\wd ws (16+i)≠0):ji ws=false:=by
 cases a:ji ws with
 | false=>rfl
 | true =>
  obtain⟨⟨a0,a1,a2⟩,a3,a4,a5,a6,a7⟩:=(bE ws).1 a;exfalso
  match i,hi with
  | 0,_=>simp only[kxa] at h;omega
  | 1,_=>simp only[Nat.reduceAdd] at h;omega
  | 2,_=>simp only[Nat.reduceAdd] at h;omega
  | 3,_=>simp only[Nat.reduceAdd] at h;omega
  | 4,_=>simp only[Nat.reduceAdd] at h;omega
  | 5,_=>simp only[Nat.reduceAdd] at h;omega
  | 6,_=>simp only[Nat.reduceAdd] at h;omega
  | 7,_=>simp only[Nat.reduceAdd] at h;omega
def pu (ws:List Nat) (f:Nat):Bool:=match blocks ws 128 with
 | none=>false
 | some l=>l.any (λb=>b.at_==(f:Int))||f==ws.length
def cU (ws:List Nat):Int:=if cP ws=0 then (if wd ws 16=3/\wd ws 17≠0/\pu ws (wd ws 17)=false then 50 else 0) else cP ws
def lnV (ws:List Nat):Value:=if cU ws=0 then phV (wd ws 16) (wd ws 17) (wd ws 18) else phV 0 0 0
theorem iK(h:cU ws=0):cP ws=0/\(wd ws 16=3->wd ws 17≠0->pu ws (wd ws 17)=true):=by
 unfold cU at h;split at h
 .rename_i h1;refine⟨h1,λb a=>?_⟩;split at h
  .simp at h
  rename_i h4;cases c:pu ws (wd ws 17) with
  | true=>rfl
  | false=>exact absurd ⟨b,a,c⟩ h4
 rename_i h1;exact absurd h h1
theorem Bm(ws:List Nat):cU ws=0\/cU ws=8\/cU ws=50:=by
 unfold cU;split
 .split<;>simp
 exact ta ws
def mdOk (ws:List Nat) (i:Nat):Bool:=aG (wd ws i)&&((ap (wd ws i)).kind==1&&(!(ap (wd ws i)).mark&&dj ws (ap (wd ws i))))
def vW (ws:List Nat):Nat->Nat->Nat->Bool
 | 0,i,t=>i==t
 | f+1,i,t=>if i<t then mdOk ws i&&vW ws f (i+szAt ws i) t else i==t
theorem mF(h:mdOk ws i=true):2<=szAt ws i/\szAt ws i%2=0/\szAt ws i<=10:=by unfold mdOk aG at h;simp only[kqu,kqx] at h;obtain⟨⟨a,-⟩,h2,-⟩:=h;have h3:=(bH _).1 a;have e:(ap (wd ws i)).size=((szAt ws i:Nat):Int):=rfl;omega
theorem nA :∀ {f i g:Nat},t-i<=f->t-i<=g->vW ws f i t=vW ws g i t:=by
 intro f
 induction f with
 | zero =>
  intro i g h a;cases g with
  | zero=>rfl
  | succ g=>simp only[vW];rw[if_neg (by omega)]
 | succ f ih =>
  intro i g h a;cases g with
  | zero=>simp only[vW];rw[if_neg (by omega)]
  | succ g =>
   simp only[vW];split
   .cases b:mdOk ws i with
    | false=>simp
    | true =>have:=mF b;rw[ih (i:=i+szAt ws i) (by omega) (g:=g) (by omega)]
   rfl
def mvd (ws:List Nat) (i t:Nat):Bool:=vW ws t i t
theorem kK(h:t<=i):mvd ws i t=(i==t):=by unfold mvd;rw[nA (g:=0) (by omega) (by omega)];rfl
theorem lg(h:i<t)(h2:mdOk ws i=true):mvd ws i t=mvd ws (i+szAt ws i) t:=by unfold mvd;have:=mF h2;rw[nA (g:=t+1) (by omega) (by omega),vW,if_pos h,h2,kzq]
theorem ut(h:i<t)(h2:mdOk ws i=false):mvd ws i t=false:=by unfold mvd;rw[nA (g:=t+1) (by omega) (by omega),vW,if_pos h,h2,kx2]
def ax (ws:List Nat):Int:=if cU ws=0 then (if wd ws 16=4 then (if mvd ws 128 (wd ws 18)=true then bj ws (wd ws 17:Nat) (wd ws 18:Nat) else 50) else if wd ws 16=3 then bj ws 128 128 else aj ws) else cU ws
def hU (ws:List Nat):Int:=if (wd ws 17:Int)<128 then 128 else (wd ws 17:Int)
def lfN (ws:List Nat):Nat:=if ax ws=0 then (if wd ws 16<3 then 0 else (eQ (aT ws (hU ws))).length) else 0
open Go.RowKit
theorem Em(n:Int):bits .and .i64 n 1=n%2:=by
 have b:(BitVec.ofInt 64 1).toNat=2 ^ 1-1:=by decide
 have a:(BitVec.ofInt 64 n &&& BitVec.ofInt 64 1).toNat=(n%((2 ^ 64:Nat):Int)).toNat%2 ^ 1:=by rw[BitVec.toNat_and,BitVec.toNat_ofInt,b,kxk]
 show IntKind.i64.wrap ((BitVec.ofInt 64 n &&& BitVec.ofInt 64 1).toNat:Nat)=n%2;rw[a,IntKind.wrap_i64];omega
theorem Dt(n:Nat)(w:World)(hn:n<=4611686018427387904):Calls prog 217 #[.int .i64 (n:Int)] w λe w'=>e=.returned (.bool (me n))/\w=w':=by
 have H:Hid (∀b:Bool,(b=true↔128<=n/\n<=2048/\n%2=0)->b=me n):=hid λb h=>by rw[kzl,a9,h]
 have ha:=Em (n:Int);go_enter func217,ntmps217;go_wp2_with fail
 all_goals
  go_ret;exact⟨jJ (H.out _ (by simp;omega)),rfl⟩
def va (p f t:Nat):Int:=if Ba p f t=true then 0 else 8
theorem EL(p f t:Nat)(w:World)(hp:p<=4611686018427387904)(hf:f<=4611686018427387904)(ht:t<=4611686018427387904):
 Calls prog 163 #[phV p f t] w λe w'=>e=.returned (.int .i64 (va p f t))/\Below w.heap.size w w':=by
 have i:=hid (λW=>Dt f W hf);have j:=hid (λW=>Dt t W ht);have b:Hid (∀r:Int,r=(if (if p=4 then me f&&(me t&&decide (t<=f)) else if t≠0 then false else if p=3 then f==0||me f else decide (p<3)&&f==0)=true then 0 else 8)->va p f t=r):=hid λr h=>by rw[h];rfl
 have y:=(kqk w.heap.size w).alloc (kqa _) (.cells #[.int .i64 (p:Int),.int .i64 (f:Int),.int .i64 (t:Int)] 107);have c:=hid y;unfold phV;clear y;by_cases k:p=4
 .subst k;cases a:me f
  .rw[a] at i;have d:=hid (b.out 8 (by rw[if_pos rfl,a];rfl));clear b j a;(try simp only[kzb] at c |-);go_enter func163,ntmps163;go_wp2_with fail;refine (i.out _).mono ?_;rintro e m ⟨rfl,rfl⟩;go_wp2;go_ret;exact⟨by rw[d.out];rfl,c.out⟩
  cases g:me t
  .rw[a] at i;rw[g] at j;have d:=hid (b.out 8 (by rw[if_pos rfl,a,g];rfl));clear b a g;(try simp only[kzb] at c |-);go_enter func163,ntmps163;go_wp2_with fail;refine (i.out _).mono ?_;rintro e m ⟨rfl,rfl⟩;go_wp2_with fail;refine (j.out _).mono ?_;rintro e m ⟨rfl,rfl⟩;go_wp2;go_ret;exact⟨by rw[d.out];rfl,c.out⟩
  rw[a] at i;rw[g] at j;by_cases s:t<=f
  .have v:decide ((t:Int)<=(f:Int))=true:=by rw[kqo];omega
   have l:decide (t<=f)=true:=by rw[kqo];omega
   have d:=hid (b.out 0 (by rw[if_pos rfl,a,g,l];rfl));clear b a g s;(try simp only[kzb] at c |-);go_enter func163,ntmps163;go_wp2_with fail;refine (i.out _).mono ?_;rintro e m ⟨rfl,rfl⟩;go_wp2_with fail;refine (j.out _).mono ?_;rintro e m ⟨rfl,rfl⟩;go_wp2;go_ret;exact⟨by rw[d.out];rfl,c.out⟩
  have v:decide ((t:Int)<=(f:Int))=false:=by rw[kqh];omega
  have l:decide (t<=f)=false:=by rw[kqh];omega
  have d:=hid (b.out 8 (by rw[if_pos rfl,a,g,l];rfl));clear b a g s;(try simp only[kzb] at c |-);go_enter func163,ntmps163;go_wp2_with fail;refine (i.out _).mono ?_;rintro e m ⟨rfl,rfl⟩;go_wp2_with fail;refine (j.out _).mono ?_;rintro e m ⟨rfl,rfl⟩;go_wp2;go_ret;exact⟨by rw[d.out];rfl,c.out⟩
 have e4:((p:Int)==4)=false:=by rw[kqi];omega
 have e4n:(p==4)=false:=by rw[kqi];omega
 by_cases x:t=0
 .subst x;by_cases o:p=3
  .subst o;by_cases n:f=0
   .subst n;have d:=hid (b.out 0 (by simp));clear b i j k;(try simp only[kzb] at c |-);go_enter func163,ntmps163;go_wp2;go_ret;exact⟨by rw[d.out];rfl,c.out⟩
   have z:((f:Int)==0)=false:=by rw[kqi];omega
   have u:(f==0)=false:=by rw[kqi];omega
   cases a:me f
   .rw[a] at i;have d:=hid (b.out 8 (by simp[a,n]));clear b j a k n;(try simp only[kzb] at c |-);go_enter func163,ntmps163;go_wp2_with fail;refine (i.out _).mono ?_;rintro e m ⟨rfl,rfl⟩;go_wp2;go_ret;exact⟨by rw[d.out];rfl,c.out⟩
   rw[a] at i;have d:=hid (b.out 0 (by simp[a]));clear b j a k n;(try simp only[kzb] at c |-);go_enter func163,ntmps163;go_wp2_with fail;refine (i.out _).mono ?_;rintro e m ⟨rfl,rfl⟩;go_wp2;go_ret;exact⟨by rw[d.out];rfl,c.out⟩
  have e3:((p:Int)==3)=false:=by rw[kqi];omega
  have e3n:(p==3)=false:=by rw[kqi];omega
  have p0:(0:Int)<=(p:Int):=by omega
  by_cases q:p<3
  .have v:decide ((p:Int)<3)=true:=by rw[kqo];omega
   have l:decide (p<3)=true:=by rw[kqo];omega
   by_cases n:f=0
   .subst n;have d:=hid (b.out 0 (by simp[k,o,q]));clear b i j k o q;(try simp only[kzb] at c |-);go_enter func163,ntmps163;go_wp2;go_ret;exact⟨by rw[d.out];rfl,c.out⟩
   have z:((f:Int)==0)=false:=by rw[kqi];omega
   have u:(f==0)=false:=by rw[kqi];omega
   have d:=hid (b.out 8 (by simp[k,o,q,n]));clear b i j k o q n;(try simp only[kzb] at c |-);go_enter func163,ntmps163;go_wp2;go_ret;exact⟨by rw[d.out];rfl,c.out⟩
  have v:decide ((p:Int)<3)=false:=by rw[kqh];omega
  have l:decide (p<3)=false:=by rw[kqh];omega
  have d:=hid (b.out 8 (by simp[k,o,q]));clear b i j k o q;(try simp only[kzb] at c |-);go_enter func163,ntmps163;go_wp2;go_ret;exact⟨by rw[d.out];rfl,c.out⟩
 have et:((t:Int) != 0)=true:=by rw[kqv];omega
 have etn:(t != 0)=true:=by rw[kqv];omega
 have d:=hid (b.out 8 (by rw[if_neg k,if_pos x];rfl));clear b i j k x;(try simp only[kzb] at c |-);go_enter func163,ntmps163;go_wp2;go_ret;exact⟨by rw[d.out];rfl,c.out⟩
def ud (ws:List Nat) (k:Nat):Array Value:=#[.int .i64 (if 0<k then (wd ws 16:Int) else 0),.int .i64 (if 1<k then (wd ws 17:Int) else 0),.int .i64 (if 2<k then (wd ws 18:Int) else 0)]
theorem Bi(ws:List Nat)(hk:k<3):(ud ws k).setIfInBounds k (.int .i64 (wd ws (16+k):Int))=ud ws (k+1):=by
 match k,hk with
 | 0,_=>rfl
 | 1,_=>rfl
 | 2,_=>rfl
theorem zr(ws:List Nat)(hk:3<=k):ud ws (k+1)=ud ws k:=by unfold ud;rw[if_pos (by omega),if_pos (by omega),if_pos (by omega),if_pos (by omega),if_pos (by omega),if_pos (by omega)]
theorem yF(ws:List Nat)(hk:k<3):∃u,(ud ws k)[k]? = some u:=by
 match k,hk with
 | 0,_=>exact⟨_,rfl⟩
 | 1,_=>exact⟨_,rfl⟩
 | 2,_=>exact⟨_,rfl⟩
def okTo (ws:List Nat) (k:Nat):Prop:=∀i,i<k->(i<3->wd ws (16+i)<=ws.length)/\(3<=i->wd ws (16+i)=0)
theorem AN(ws:List Nat):okTo ws 0:=λi h=>absurd h (by omega)
theorem Ct(h:okTo ws k)(h1:(k<3->wd ws (16+k)<=ws.length)/\(3<=k->wd ws (16+k)=0)):okTo ws (k+1):=λi hi=>by
 rcases kq7 i k with a|a
 .exact h i a
 .have:i=k:=by omega
  subst this;exact h1
theorem Br(h:okTo ws 8):ji ws=true:=by rw[bE];exact⟨⟨(h 0 (by omega)).1 (by omega),(h 1 (by omega)).1 (by omega),(h 2 (by omega)).1 (by omega)⟩,(h 3 (by omega)).2 (by omega),(h 4 (by omega)).2 (by omega),(h 5 (by omega)).2 (by omega),(h 6 (by omega)).2 (by omega),(h 7 (by omega)).2 (by omega)⟩
theorem zw(h:ak (ws.length:Int)=true)(h2:ji ws=false):cP ws=50/\prV ws=phV 0 0 0:=sL h (by rw[h2,kx2])
theorem E6(h:ak (ws.length:Int)=true)(h2:va (wd ws 16) (wd ws 17) (wd ws 18)≠0):cP ws=50/\prV ws=phV 0 0 0:=sL h (by
 unfold va at h2;cases a:Ba (wd ws 16) (wd ws 17) (wd ws 18) with
 | false=>rw[kj9]
 | true=>rw[a] at h2;exact absurd rfl h2)
theorem zg(h:ak (ws.length:Int)=true)(h1:ji ws=true)(h2:va (wd ws 16) (wd ws 17) (wd ws 18)=0):cP ws=0/\prV ws=phV (wd ws 16) (wd ws 17) (wd ws 18):=nt h (by
 unfold va at h2;cases a:Ba (wd ws 16) (wd ws 17) (wd ws 18) with
 | true=>rw[h1];rfl
 | false=>rw[a] at h2;cases h2)
theorem bD{fn:Func}{p q:Tmp}(h:fn.results=#[.cell p 107,.tmp q])(tmps:Array Value){W:World}{g:Nat}{t:TypeId}{v0 v1 v2 u:Value}(hb:Bx W g t #[v0,v1,v2])(hp:tmps.getD p undef=.pointer (some ⟨g,0,none⟩))(hq:tmps.getD q undef=u):
 (results fn tmps).run prog W=.ok (.tuple #[.agg #[v0,v1,v2],u]) W:=by obtain⟨a,c,b,-⟩:=hb.c3;rw[kxt] at hp hq;simp[results,h,hp,hq,go_sem,a,c,b]
theorem Je(A:Option Addr)(ws:List Nat)(c n:Nat)(w:World)(hn:ws.length=n)(hm:n<=9223372036854775807)(hc:n<=c)(O:RdW w w.heap.size A ws)(ho:∀x∈ws,x<18446744073709551616):
 Calls prog 102 #[.slice A n c] w λe w'=>e=.returned (.tuple #[prV ws,.int .i64 (cP ws)])/\Below w.heap.size w w':=by
 subst hn;have HR:=hid O;have HO:=hid ho;clear O ho;have f:=Bx.new w 107 #[.int .i64 0,.int .i64 0,.int .i64 0];cases L:ak (ws.length:Int)
 .have HI:=hid (bL L);have l:=hid (tP L);have H:=hid f;clear L f;go_enter func102,ntmps102;go_wp2_with fail;refine (aB A ws.length c _ hm).mono ?_;rintro e w1 ⟨rfl,rfl⟩;rw[HI.out];go_wp2_with fail;refine kqq (v:=.tuple #[.agg #[.int .i64 0,.int .i64 0,.int .i64 0],.int .i64 8]) (bD results102 _ H.out rfl rfl) rfl ⟨by rw[l.out.1,l.out.2];rfl,(kqk _ _).alloc (kqa _) _⟩
 have HI:=hid (aV L);obtain⟨hb1,G,-⟩:=ir ws L;have HS:=hid L;have H:=hid f;obtain⟨b,off,rfl,hb,-⟩:=RdW.at_ HR.out (show 0<ws.length by omega);have HC:Hid (∀k (h:k<8) (W:World),Below w.heap.size w W->W.cell? ⟨b,off+16+k,none⟩=some (.int .u64 (wd ws (16+k):Int))):=hid λk h W t=>by
  obtain⟨b',off',e',-,Y⟩:=RdW.at_ (Rd.below HR.out t) (show 16+k<ws.length by omega);cases e';rw[<-cF,<-kj3] at Y;exact Y
 have Kx:Hid (∀k,wd ws k<18446744073709551616):=hid (fT HO.out);have hc24:(24:Int)<=(c:Int):=by omega
 have hc16:((c:Int)==16)=false:=by rw[kqi];omega
 have hc16n:(c==16)=false:=by rw[kqi];omega
 have hne:¬ c=16:=by omega
 clear L f;go_enter func102,ntmps102;go_wp2_with fail;refine (aB _ ws.length c _ hm).mono ?_;rintro e w1 ⟨rfl,rfl⟩;rw[HI.out];go_wp2_with fail;go_loopw [20] (λi wr=>∃k:Nat,k<=8/\i=.int .i64 k/\Hid (okTo ws k)/\Bx wr w.heap.size 107 #[.int .i64 0,.int .i64 0,.int .i64 0]/\Bx wr (w.heap.size+1) 226 (ud ws k)/\Below w.heap.size w wr) (λi _=>8-(intOf i).toNat)
 case atStart =>
  have x1:=Bx.new (w.alloc (.cells #[.int .i64 0,.int .i64 0,.int .i64 0] 107)) 226 #[.int .i64 0,.int .i64 0,.int .i64 0];rw[kqm] at x1;exact⟨0,kqz _,rfl,AN ws,H.out.alloc _,x1,((kqk _ _).alloc (kqa _) _).alloc (by simp) _⟩
 obtain⟨k,hk,rfl,S,f,q,t⟩:=hrel;have hz:=t.size;by_cases P:k<8
 .have Y:=HC.out k P _ t;have Ky:=Kx.out (16+k);have g:=hid (λh=>Ct S.out h);have j:=hid (λh=>zw HS.out (Gz P h));have a:=hid (λh=>Bi ws (k:=k) h);have o:=hid (λh=>zr ws (k:=k) h);have p:=hid (λh=>yF ws (k:=k) h);obtain⟨x,M⟩:=xq (wd ws (16+k));rw[M] at Y Ky g j a;have hk1:(k:Int)<8:=by omega
  have hk0:(0:Int)<=(k:Int):=by omega
  have hx1:(0:Int)<=(x:Int):=by omega
  clear M;by_cases C:k<3
  .have Kw:decide ((k:Int)<3)=true:=by rw[kqo];omega
   have T:decide (k<3)=true:=by rw[kqo];omega
   obtain⟨u,hu⟩:=p.out C;by_cases D:x<=ws.length
   .have Kz:decide ((x:Int)<=(ws.length:Int))=true:=by rw[kqo];omega
    have N:decide (x<=ws.length)=true:=by rw[kqo];omega
    have HY:=hid (g.out ⟨λ_=>D,λh=>absurd h (by omega)⟩);have HZ:=hid (a.out C);have X:=(q.cell k).trans hu;have Z:=q.frozen k;have F:=hid f;have B1:=hid q;have hxw:IntKind.i64.wrap (x:Int)=(x:Int):=kqt _ (by omega);clear g j a o p f q hu D;go_wp2;go_roundw
    case rel=>exact⟨k+1,by omega,by go_num,HY.out,F.out.far (by simp) _,by rw[<-HZ.out];exact B1.out.set_ k _,t.setCell (by simp) _⟩
    case measure=>simp[intOf];omega
   have Kz:decide ((x:Int)<=(ws.length:Int))=false:=by rw[kqh];omega
   have N:decide (x<=ws.length)=false:=by rw[kqh];exact D
   have l:=hid (j.out (.inl ⟨C,by omega⟩));have F:=hid f;obtain⟨c0,X,c2,f0,Z,f2,K⟩:=f.c3;clear g j a o p f q hu D;go_wp2_with fail;refine kqq (v:=.tuple #[.agg #[.int .i64 0,.int .i64 0,.int .i64 0],.int .i64 50]) (bD results102 _ (((F.out.set_ 0 _).set_ 1 _).set_ 2 _) rfl rfl) rfl ⟨by rw[l.out.1,l.out.2];rfl,((t.setCell (by simp) _).setCell (by simp) _).setCell (by simp) _⟩
  have Kw:decide ((k:Int)<3)=false:=by rw[kqh];omega
  have T:decide (k<3)=false:=by rw[kqh];omega
  by_cases d:x=0
  .have Eq:((x:Int) != 0)=false:=by rw[kqr];omega
   have V:(x != 0)=false:=by rw[kqr];exact d
   have HY:=hid (g.out ⟨λh=>absurd h C,λ_=>d⟩);have HZ:=hid (o.out (by omega));have F:=hid f;have B1:=hid q;clear g j a o p f q d;go_wp2;go_roundw
   case rel=>exact⟨k+1,by omega,by go_num,HY.out,F.out,by rw[HZ.out];exact B1.out,t⟩
   case measure=>simp[intOf];omega
  have Eq:((x:Int) != 0)=true:=by rw[kqv];omega
  have V:(x != 0)=true:=by rw[kqv];exact d
  have l:=hid (j.out (.inr ⟨by omega,d⟩));have F:=hid f;obtain⟨c0,X,c2,f0,Z,f2,K⟩:=f.c3;clear g j a o p f q d;go_wp2_with fail;refine kqq (v:=.tuple #[.agg #[.int .i64 0,.int .i64 0,.int .i64 0],.int .i64 50]) (bD results102 _ (((F.out.set_ 0 _).set_ 1 _).set_ 2 _) rfl rfl) rfl ⟨by rw[l.out.1,l.out.2];rfl,((t.setCell (by simp) _).setCell (by simp) _).setCell (by simp) _⟩
 obtain rfl:k=8:=by omega
 have R:=hid (Br S.out);obtain⟨⟨l0,l1,l2⟩,-⟩:=(bE ws).1 R.out;have B:=hid (λW=>EL (wd ws 16) (wd ws 17) (wd ws 18) W (by omega) (by omega) (by omega));have I:=hid (λh=>E6 HS.out h);have E:=hid (λh=>zg HS.out R.out h);have Q:Bx wr (w.heap.size+1) 226 #[.int .i64 (wd ws 16:Int),.int .i64 (wd ws 17:Int),.int .i64 (wd ws 18:Int)]:=q;obtain⟨c0,X,c2,-⟩:=Q.c3;obtain⟨q0,q1,q2,f0,Z,f2,K⟩:=f.c3;unfold phV at B E;obtain⟨x,M⟩:=xq (wd ws 16);obtain⟨y,hy⟩:=xq (wd ws 17);obtain⟨z,J⟩:=xq (wd ws 18);rw[M,hy,J] at B I E;rw[M] at c0;rw[hy] at X;rw[J] at c2;have F:=hid f;have HB:=hid t;clear f q Q l0 l1 l2 M hy J;obtain⟨r,O⟩:=xq (va x y z);rw[O] at B I E;clear O;go_wp2_with fail;refine (B.out _).mono ?_;rintro e w2 ⟨rfl,s⟩;rw[kqm] at s;have G:=ay s;have b3:=hid (F.out.up G K);have n3:=Bx.of_new s;obtain⟨q0,q1,q2,f0,Z,f2,hgl2⟩:=b3.out.c3;obtain⟨n0,n1,n2,-⟩:=n3.c3;have U:=hid (HB.out.trans (G.mono HB.out.size));clear s G n3;by_cases m:r=0
 .have l:=hid (E.out m);subst m;go_wp2_with fail;refine kqq (v:=.tuple #[.agg #[.int .i64 (x:Int),.int .i64 (y:Int),.int .i64 (z:Int)],.int .i64 0]) (bD results102 _ (((b3.out.set_ 0 _).set_ 1 _).set_ 2 _) rfl rfl) rfl ⟨by rw[l.out.1,l.out.2],((U.out.setCell (by simp) _).setCell (by simp) _).setCell (by simp) _⟩
 have l:=hid (I.out m);have hrn:(r != 0)=true:=by rw[kqv];exact m
 clear m;go_wp2_with fail;refine kqq (v:=.tuple #[.agg #[.int .i64 0,.int .i64 0,.int .i64 0],.int .i64 50]) (bD results102 _ (((b3.out.set_ 0 _).set_ 1 _).set_ 2 _) rfl rfl) rfl ⟨by rw[l.out.1,l.out.2];rfl,((U.out.setCell (by simp) _).setCell (by simp) _).setCell (by simp) _⟩
def noAt (l:List Bk) (f:Nat) (k:Nat):Prop:=∀j,j<k->(gk l j).at_≠(f:Int)
theorem Df(l:List Bk)(f:Nat):noAt l f 0:=λj h=>absurd h (by omega)
theorem Dz(h:noAt l f k)(h2:(gk l k).at_≠(f:Int)):noAt l f (k+1):=λj hj=>by
 rcases kq7 j k with a|a
 .exact h j a
 .have:j=k:=by omega
  subst this;exact h2
theorem bd_no(hs:ak (ws.length:Int)=true)(h:cj ws 128≠0)(f:Nat):pu ws f=false:=by
 unfold pu;cases a:blocks ws 128 with
 | none=>rfl
 | some l=>exact absurd (cV hs (iI hs) a).1 h
theorem bd_at(hb:blocks ws 128=some l)(hk:k<l.length)(h:(gk l k).at_=(f:Int)):pu ws f=true:=by unfold pu;rw[hb];simp only[kx1,kx5];refine .inl ⟨l[k],kqn hk,?_⟩;rw[bU l k hk] at h;rw[kqx];exact h
theorem bd_end(hb:blocks ws 128=some l)(h:noAt l f l.length):pu ws f=(f==ws.length):=by
 unfold pu;rw[hb];have:l.any (λb=>b.at_==(f:Int))=false:=by rw[kjk];intro b c;obtain⟨k,a,rfl⟩:=kq0 c;have:=h k a;rw[bU l k a] at this;rw[kqx];exact this
 show (l.any (λb=>b.at_==(f:Int))||f==ws.length)=_;rw[this,kvk]
theorem ze(A:Option Addr)(ws:List Nat)(c n f:Nat)(w:World)(hn:ws.length=n)(hs:ak (n:Int)=true)(hr:RdW w w.heap.size A ws)(ho:∀x∈ws,x<18446744073709551616):
 Calls prog 103 #[.slice A n c,.int .i64 (f:Int)] w λe w'=>e=.returned (.bool (pu ws f))/\Below w.heap.size w w':=by
 subst hn;have F:=ir ws hs;have z:=hid (mV A ws c ws.length 128 w rfl (by omega) hr ho);unfold rx at z;have m:=hid (λh=>bd_no hs h f);have d:Hid (cj ws 128=0->blocks ws 128=some (aT ws 128)):=hid λh=>(BY h).2;have u:=iR ws 128;obtain⟨r,p⟩:=xq (cj ws 128);obtain⟨l,D⟩:=xq (aT ws 128);rw[p,D] at z d;rw[D] at u;rw[p] at m;clear p D hr ho hs F;by_cases j:r=0
 .subst j;have J:=hid (λk (h:k<l.length) V=>bd_at (d.out rfl) h V (f:=f));have I:=hid (λh=>bd_end (d.out rfl) (f:=f) h);clear m d;go_enter func103,ntmps103;go_wp2_with fail;refine z.out.mono ?_;rintro e E ⟨⟨U,W,rfl,v,-⟩,g⟩;have t:=g.size;have H:=hid v;clear v;go_wp2_with fail;go_loopw [18] (λi wr=>∃k:Nat,k<=l.length/\i=.int .i64 k/\Hid (noAt l f k)/\Below E.heap.size E wr) (λi _=>l.length-(intOf i).toNat)
  case atStart=>exact⟨0,kqz _,rfl,Df l f,kqk _ _⟩
  obtain⟨k,hk,rfl,T,s⟩:=hrel;have N:=s.size;by_cases q:k<l.length
  .obtain ⟨b,off,rfl,hbw,L,R,P,Q,S,O⟩:=RdB.at_ (H.out.below s) q;have B:=hid (λh=>Dz T.out h);have C:=hid (λh=>J.out k q h);rw[bU l k q] at B C;obtain⟨x,M⟩:=xq (l[k]);rw[M] at L R P Q S O B C;obtain⟨K,xs,xk,xt,xm,xn⟩:=x;dsimp only at L R P Q S O B C;have hlm:(k:Int)<(l.length:Int):=by omega
   clear M;by_cases a:K=(f:Int)
   .have X:(K==(f:Int))=true:=by rw[kqx];exact a
    have o:=hid (C.out a);clear a;go_wp2;go_ret;exact⟨by rw[o.out];rfl,g.trans ((s.alloc N _).mono t)⟩
   have X:(K==(f:Int))=false:=by rw[kqi];exact a
   have o:=hid (B.out a);clear a;go_wp2;go_roundw
   case rel=>exact⟨k+1,by omega,by go_num,o.out,s.alloc N _⟩
   case measure=>simp[intOf];omega
  have o:=hid (I.out (by have:=T.out;rwa [show k=l.length by omega] at this));have y:((f:Int)==(ws.length:Int))=(f==ws.length):=by rw[kzl,kqx,kqx];omega
  have G:=hid y;clear y;go_wp2;go_ret;exact⟨by rw[o.out,<-G.out];rfl,g.trans (s.mono t)⟩
 have hn1:(r != 0)=true:=by rw[kqv];exact j
 have o:=hid (m.out j);clear j m d;go_enter func103,ntmps103;go_wp2_with fail;refine z.out.mono ?_;rintro e E ⟨⟨U,W,rfl,-,-⟩,g⟩;go_wp2;go_ret;exact⟨by rw[o.out];rfl,g⟩
theorem v8(h:cP ws=r)(h0:r≠0):cU ws=r/\lnV ws=phV 0 0 0:=by subst h;simp[cU,lnV,h0]
theorem EO(h:cP ws=0)(h1:wd ws 16=3)(h2:wd ws 17≠0)(h3:pu ws (wd ws 17)=false):cU ws=50/\lnV ws=phV 0 0 0:=by simp[cU,lnV,h,h1,h2,h3]
theorem FP(h:cP ws=0)(h3:wd ws 16=3->wd ws 17≠0->pu ws (wd ws 17)=true):cU ws=0/\lnV ws=phV (wd ws 16) (wd ws 17) (wd ws 18):=by
 have:cU ws=0:=by unfold cU;rw[if_pos h,if_neg];rintro ⟨a,b,c⟩;rw[h3 a b] at c;cases c
 simp[lnV,this]
theorem tM(A:Option Addr)(ws:List Nat)(c n:Nat)(w:World)(hn:ws.length=n)(hm:n<=9223372036854775807)(hc:n<=c)(E:RdW w w.heap.size A ws)(ho:∀x∈ws,x<18446744073709551616):
 Calls prog 55 #[.slice A n c] w λe w'=>e=.returned (.tuple #[lnV ws,.int .i64 (cU ws)])/\Below w.heap.size w w':=by
 subst hn;have HR:=hid E;have HO:=hid ho;clear E ho;have b0:=Bx.new w 107 #[.int .i64 0,.int .i64 0,.int .i64 0];cases O:ak (ws.length:Int)
 .have G:=hid (bL O);have l:=hid (v8 (tP O).1 (by omega));have m:=hid b0;clear O b0;go_enter func55,ntmps55;go_wp2_with fail;refine (aB A ws.length c _ hm).mono ?_;rintro e k ⟨rfl,rfl⟩;rw[G.out];go_wp2_with fail;refine kqq (v:=.tuple #[.agg #[.int .i64 0,.int .i64 0,.int .i64 0],.int .i64 8]) (bD results55 _ m.out rfl rfl) rfl ⟨by rw[l.out.1,l.out.2];rfl,(kqk _ _).alloc (kqa _) _⟩
 have G:=hid (aV O);have HS:=hid O;have t:=hid (Je A ws c ws.length (w.alloc (.cells #[.int .i64 0,.int .i64 0,.int .i64 0] 107)) rfl hm hc ((HR.out.alloc (kqa _) _).more (by simp)) HO.out);rw[kqm] at t;have H:Hid (∀r,cP ws=r->r≠0->cU ws=r/\lnV ws=phV 0 0 0):=hid λr h h0=>v8 h h0;have C:=ta ws;clear O b0;by_cases j:cP ws=0
 .have o:=hid (λh1 V h3=>EO j h1 V h3);have f:=hid (λh1=>FP j h1);obtain⟨g1,g2⟩:=nt HS.out (by have:=(gx j).2;rw[this.1,this.2];rfl);rw[g1,g2] at t;have u:=hid (λW (h:RdW W W.heap.size A ws)=>ze A ws c ws.length (wd ws 17) W rfl HS.out h HO.out);unfold phV at t f;obtain⟨x,Z⟩:=xq (wd ws 16);obtain⟨y,X⟩:=xq (wd ws 17);obtain⟨z,hz⟩:=xq (wd ws 18);obtain⟨bd,U⟩:=xq (pu ws y);rw[Z,X,hz] at t f;rw[Z,X] at o;rw[X] at u;rw[U] at u o f;clear j g1 g2 Z X hz U H C;have T:∀(k:World),Below (w.heap.size+1) (w.alloc (.cells #[.int .i64 0,.int .i64 0,.int .i64 0] 107)) k->RdW (k.alloc (.cells #[.int .i64 (x:Int),.int .i64 (y:Int),.int .i64 (z:Int)] 107)) (k.alloc (.cells #[.int .i64 (x:Int),.int .i64 (y:Int),.int .i64 (z:Int)] 107)).heap.size A ws:=λk h=>by
   have V:=ay h;exact ((HR.out.up V V.size).alloc (kqa _) _).more (by simp)
  have m:=hid T;clear T;by_cases D:x=3
  .have e1:((x:Int)==3)=true:=by rw[kqx];omega
   have Y:(x==3)=true:=by rw[kqx];exact D
   by_cases I:y=0
   .have e2:((y:Int) != 0)=false:=by rw[kqr];omega
    have e2n:(y != 0)=false:=by rw[kqr];exact I
    have l:=hid (f.out (λ_ h=>absurd I h));clear o f D I;go_enter func55,ntmps55;go_wp2_with fail;refine (aB A ws.length c _ hm).mono ?_;rintro e k ⟨rfl,rfl⟩;rw[G.out];go_wp2_with fail;refine t.out.mono ?_;rintro e k ⟨rfl,a⟩;have q:=hid (m.out _ a);have g:=Bx.of_new a;have d:=ay a;have B:=hid g;have b:=hid d;obtain⟨J,M,K,L,P,N,s⟩:=g.c3;clear a d g;go_wp2_with fail;exact kqq (v:=.tuple #[.agg #[.int .i64 (x:Int),.int .i64 (y:Int),.int .i64 (z:Int)],.int .i64 0]) (bD results55 _ ((((B.out.set_ 0 _).set_ 1 _).set_ 2 _).alloc _) rfl rfl) rfl ⟨by rw[l.out.1,l.out.2],(((b.out.setCell (kqa _) _).setCell (kqa _) _).setCell (kqa _) _).alloc (by simp;exact b.out.size) _⟩
   have e2:((y:Int) != 0)=true:=by rw[kqv];omega
   have e2n:(y != 0)=true:=by rw[kqv];exact I
   cases bd
   .have l:=hid (o.out D I rfl);clear o f D I;go_enter func55,ntmps55;go_wp2_with fail;refine (aB A ws.length c _ hm).mono ?_;rintro e k ⟨rfl,rfl⟩;rw[G.out];go_wp2_with fail;refine t.out.mono ?_;rintro e k ⟨rfl,a⟩;have q:=hid (m.out _ a);have g:=Bx.of_new a;have d:=ay a;have B:=hid g;have b:=hid d;obtain⟨J,M,K,L,P,N,s⟩:=g.c3;clear a d g;go_wp2_with fail;refine (u.out _ q.out).mono ?_;rintro e w2 ⟨rfl,i⟩;rw[kqm] at i;have R:=Bx.of_new i;have p:=ay i;have S:=hid (B.out.up p s);have F:=hid (b.out.trans (p.mono b.out.size));obtain⟨J,M,K,L,P,N,Q⟩:=S.out.c3;obtain⟨n0,n1,n2',-⟩:=R.c3;clear i p R;go_wp2_with fail;exact kqq (v:=.tuple #[.agg #[.int .i64 0,.int .i64 0,.int .i64 0],.int .i64 50]) (bD results55 _ (((S.out.set_ 0 _).set_ 1 _).set_ 2 _) rfl rfl) rfl ⟨by rw[l.out.1,l.out.2];rfl,((F.out.setCell (kqa _) _).setCell (kqa _) _).setCell (kqa _) _⟩
   have l:=hid (f.out (λ_ _=>rfl));clear o f D I;go_enter func55,ntmps55;go_wp2_with fail;refine (aB A ws.length c _ hm).mono ?_;rintro e k ⟨rfl,rfl⟩;rw[G.out];go_wp2_with fail;refine t.out.mono ?_;rintro e k ⟨rfl,a⟩;have q:=hid (m.out _ a);have g:=Bx.of_new a;have d:=ay a;have B:=hid g;have b:=hid d;obtain⟨J,M,K,L,P,N,s⟩:=g.c3;clear a d g;go_wp2_with fail;refine (u.out _ q.out).mono ?_;rintro e w2 ⟨rfl,i⟩;rw[kqm] at i;have R:=Bx.of_new i;have p:=ay i;have S:=hid (B.out.up p s);have F:=hid (b.out.trans (p.mono b.out.size));obtain⟨J,M,K,L,P,N,Q⟩:=S.out.c3;obtain⟨n0,n1,n2',-⟩:=R.c3;clear i p R;go_wp2_with fail;exact kqq (v:=.tuple #[.agg #[.int .i64 (x:Int),.int .i64 (y:Int),.int .i64 (z:Int)],.int .i64 0]) (bD results55 _ (((S.out.set_ 0 _).set_ 1 _).set_ 2 _) rfl rfl) rfl ⟨by rw[l.out.1,l.out.2],((F.out.setCell (kqa _) _).setCell (kqa _) _).setCell (kqa _) _⟩
  have e1:((x:Int)==3)=false:=by rw[kqi];omega
  have Y:(x==3)=false:=by rw[kqi];exact D
  have l:=hid (f.out (λh=>absurd h D));clear o f D;go_enter func55,ntmps55;go_wp2_with fail;refine (aB A ws.length c _ hm).mono ?_;rintro e k ⟨rfl,rfl⟩;rw[G.out];go_wp2_with fail;refine t.out.mono ?_;rintro e k ⟨rfl,a⟩;have q:=hid (m.out _ a);have g:=Bx.of_new a;have d:=ay a;have B:=hid g;have b:=hid d;obtain⟨J,M,K,L,P,N,s⟩:=g.c3;clear a d g;go_wp2_with fail;exact kqq (v:=.tuple #[.agg #[.int .i64 (x:Int),.int .i64 (y:Int),.int .i64 (z:Int)],.int .i64 0]) (bD results55 _ ((((B.out.set_ 0 _).set_ 1 _).set_ 2 _).alloc _) rfl rfl) rfl ⟨by rw[l.out.1,l.out.2],(((b.out.setCell (kqa _) _).setCell (kqa _) _).setCell (kqa _) _).alloc (by simp;exact b.out.size) _⟩
 obtain⟨r,E⟩:=xq (cP ws);have l:=hid (H.out r E (by rw[<-E];exact j));have hv:prV ws=phV 0 0 0:=by simp[prV,j]
 rw[E,hv] at t;rw[E] at j C;have hn1:(r != 0)=true:=by rw[kqv];exact j
 unfold phV at t;have m:Hid (∀k:World,Below (w.heap.size+1) (w.alloc (.cells #[.int .i64 0,.int .i64 0,.int .i64 0] 107)) k->True):=hid λ_ _=>trivial;clear j E H hv;go_enter func55,ntmps55;go_wp2_with fail;refine (aB A ws.length c _ hm).mono ?_;rintro e k ⟨rfl,rfl⟩;rw[G.out];go_wp2_with fail;refine t.out.mono ?_;rintro e k ⟨rfl,a⟩;have q:=hid (m.out _ a);have g:=Bx.of_new a;have d:=ay a;have B:=hid g;have b:=hid d;obtain⟨J,M,K,L,P,N,s⟩:=g.c3;clear a d g;go_wp2_with fail;exact kqq (v:=.tuple #[.agg #[.int .i64 0,.int .i64 0,.int .i64 0],.int .i64 r]) (bD results55 _ ((((B.out.set_ 0 _).set_ 1 _).set_ 2 _).alloc _) rfl rfl) rfl ⟨by rw[l.out.1,l.out.2];rfl,(((b.out.setCell (kqa _) _).setCell (kqa _) _).setCell (kqa _) _).alloc (by simp;exact b.out.size) _⟩
theorem IT(h:aG (wd ws i)=false):mdOk ws i=false:=by unfold mdOk;rw[h,kx2]
theorem Fk(h:aG (wd ws i)=true):mdOk ws i=((ap (wd ws i)).kind==1&&(!(ap (wd ws i)).mark&&dj ws (ap (wd ws i)))):=by unfold mdOk;rw[h,kzq]
theorem I0{x:Nat}(h:aG x=true)(hk:(ap x).kind=1):(ap x).typ<8:=by unfold aG at h;simp only[kqu] at h;have:=(bH _).1 h.1;omega
theorem J8(A:Option Addr)(ws:List Nat)(c n t:Nat)(w:World)(hn:ws.length=n)(hm:n<=1000000)(h2:256<=n)(ht:t<=n)(hr:RdW w w.heap.size A ws)(ho:∀x∈ws,x<18446744073709551616):
 Calls prog 160 #[.slice A n c,.int .i64 (t:Int)] w λe w'=>e=.returned (.bool (mvd ws 128 t))/\Below w.heap.size w w':=by
 subst hn;have HR:=hid hr;have Z:Hid (∀k,wd ws k<18446744073709551616):=hid (fT ho);obtain⟨b,D,rfl,hb,-⟩:=RdW.at_ hr (show 0<ws.length by omega);have Kx:Hid (∀k (h:k<ws.length) (W:World),Below w.heap.size w W->W.cell? ⟨b,D+k,none⟩=some (.int .u64 (wd ws k:Int))):=hid λk h W L=>by
  obtain⟨b',off',e',-,h0⟩:=RdW.at_ (Rd.below HR.out L) h;cases e';rw[<-cF] at h0;exact h0
 have Lp:=hid (λxa xs E (t:Nat) xm xn=>vg ws xa xs E t xm xn);clear hr ho;obtain⟨V,hV⟩:=xq (mvd ws 128 t);have HV:=hid hV;rw[hV];clear hV;go_enter func160,ntmps160;go_wp2_with fail;go_loopw [5] (λa wr=>∃i:Nat,128<=i/\i<=1000020/\a=.int .i64 i/\Hid (V=mvd ws i t)/\Below w.heap.size w wr) (λa _=>t-(intOf a).toNat)
 case atStart=>exact⟨128,by omega,by omega,rfl,hid HV.out.symm,kqk _ _⟩
 obtain⟨i,hi,hi2,rfl,HI,L⟩:=hrel;have hz:=L.size;by_cases M:i<t
 .have j:=hid (λh=>ut (ws:=ws) (t:=t) M h);have S:=hid (λh=>lg (ws:=ws) (t:=t) M h);have T:=hid (λh=>IT (ws:=ws) (i:=i) h);have R:=hid (λh=>Fk (ws:=ws) (i:=i) h);have P:=hid (λh hk=>I0 (x:=wd ws i) h hk);have g:=hid (λW=>nW (wd ws i) W (Z.out i));have p0:=Kx.out i (by omega) _ L;have hit:(i:Int)<(t:Int):=by omega
  have hi0:(0:Int)<=(i:Int):=by omega
  have hin:(i:Int)<(ws.length:Int):=by omega
  have F:Hid (szAt ws i=(ap (wd ws i)).size.toNat):=hid rfl;have O:Hid (0<=(ap (wd ws i)).size/\(ap (wd ws i)).size<=65535/\0<=(ap (wd ws i)).typ):=hid (by
   have h1:wd ws i/65536%65536<65536:=kz0 _ (by omega);unfold ap;dsimp only;omega)
  have Lr:=hid (λh=>mF (ws:=ws) (i:=i) h);obtain⟨x,hx⟩:=xq (wd ws i);rw[hx] at p0 T R P g F O;clear hx;cases I:aG x
  .rw[(mP I).1,(mP I).2] at g;unfold mW Bk.val at g;dsimp only at g;have C:=hid (HI.out.trans (j.out (T.out I)));clear I j S T R P;go_wp2_with fail;refine (g.out _).mono ?_;rintro e s ⟨rfl,l⟩;have f:=L.trans (l.mono hz);go_wp2;go_ret;exact⟨by rw[C.out];rfl,f.alloc f.size _⟩
  have HSO:=hid I;rw[(mM I).1,(mM I).2] at g;have d:=hid (R.out I);have v:=hid (λhk=>P.out I hk);clear I T R P;obtain⟨y,hy⟩:=xq (ap x);have Lb:y.at_=0/\y.next=0:=by rw[<-hy];exact⟨rfl,rfl⟩
  rw[hy] at g d v F O;clear hy;obtain⟨xa,xs,E,xt,xm,xn⟩:=y;dsimp only at Lb d v F O;obtain⟨rfl,rfl⟩:=Lb;unfold Bk.val at g;dsimp only at g;by_cases q:E=1
  .have ek:(E != 1)=false:=by rw[kqr];exact q
   have ek2:(E==1)=true:=by rw[kqx];exact q
   have ht8:=v.out q;obtain⟨r1,r2,r3⟩:=O.out;obtain⟨u,rfl⟩:=kq1 r3;obtain⟨sz,rfl⟩:=kq1 r1;rw[kqj] at F;rw[ek2,kzq] at d;clear q v r1 r3;cases xm
   .rw[kvu,kzq,Lp.out] at d;have Lh:=Z.out (96+2*u);have Ll:=Z.out (96+2*u+1);have HC:=hid (λW=>qy (wd ws (96+2*u)) (wd ws (96+2*u+1)) W Lh Ll);have HK:=hid (ng (wd ws (96+2*u)) (wd ws (96+2*u+1)));have Eq:=lE (wd ws (96+2*u)) (wd ws (96+2*u+1));have K:=hid (oi (wd ws (96+2*u)) (wd ws (96+2*u+1)));have Lc:=hid (Kx.out (96+2*u) (by omega));have Lm:=hid (Kx.out (96+2*u+1) (by omega));obtain⟨G,Lk⟩:=xq (wd ws (96+2*u));obtain⟨H,Le⟩:=xq (wd ws (96+2*u+1));rw[Lk] at Lc HC HK K Eq d;rw[Le] at Lm HC HK K Eq d;clear Lk Le Lh Ll;have t0:(0:Int)<=(u:Int):=by omega
    have s:IntKind.i64.wrap (2*(u:Int))=2*(u:Int):=kqt _ (by omega);have w2:IntKind.i64.wrap (96+2*(u:Int))=96+2*(u:Int):=kqt _ (by omega);have w3:IntKind.i64.wrap (96+2*(u:Int)+1)=96+2*(u:Int)+1:=kqt _ (by omega);have i1:(0:Int)<=96+2*(u:Int):=by omega
    have i2:(96:Int)+2*(u:Int)<(ws.length:Int):=by omega
    have i3:(0:Int)<=96+2*(u:Int)+1:=by omega
    have i4:(96:Int)+2*(u:Int)+1<(ws.length:Int):=by omega
    have n1:((96:Int)+2*(u:Int)).toNat=96+2*u:=by omega
    have n2:((96:Int)+2*(u:Int)+1).toNat=96+2*u+1:=by omega
    go_wp2_with fail;refine (g.out _).mono ?_;rintro e s ⟨rfl,l⟩;have f:=L.trans (l.mono hz);have B:=f.alloc f.size (.cells #[.int .i64 0,.int .i64 (sz:Int),.int .i64 E,.int .i64 (u:Int),.bool false,.int .u64 ((0:Nat):Int)] 55);have bx:=Bx.new s 55 #[.int .i64 0,.int .i64 (sz:Int),.int .i64 E,.int .i64 (u:Int),.bool false,.int .u64 ((0:Nat):Int)];have U:(s.alloc (.cells #[.int .i64 0,.int .i64 (sz:Int),.int .i64 E,.int .i64 (u:Int),.bool false,.int .u64 ((0:Nat):Int)] 55)).heap.size=s.heap.size+1:=by simp
    have hw1:=f.size;simp only[kzb] at bx B U;clear p0 l f;go_wp2_with fail;obtain⟨W0,Lo⟩:∃W0,s.alloc (.cells #[.int .i64 0,.int .i64 (sz:Int),.int .i64 E,.int .i64 (u:Int),.bool false,.int .u64 0] 55)=W0:=⟨_,rfl⟩;rw[Lo] at bx B U |-;clear Lo;have h0:=Lc.out _ B;have h1:=Lm.out _ B;have b3:W0.cell? ⟨s.heap.size,3,none⟩=some (.int .i64 (u:Int)):=bx.cell 3;have Kz:b<W0.heap.size:=by omega
    have Lj:s.heap.size<W0.heap.size:=by omega
    have BX:=hid bx;have Lu:=hid B;clear bx B U
    go_region_held3 (λX:World=>X.cell? ⟨b,D+(96+2*u),none⟩=some (.int .u64 (G:Int))/\X.cell? ⟨b,D+(96+2*u+1),none⟩=some (.int .u64 (H:Int))/\X.cell? ⟨s.heap.size,3,none⟩=some (.int .i64 (u:Int))) (go_keep)
     (first | (go_at_call 117;refine (HC.out _).mono ?_;rintro e w5 ⟨⟨A1,c1,rfl,Li,Lq⟩,Q⟩;have m0:=(Q.cell (p:=⟨b,D+(96+2*u),none⟩) Kz).trans h0;have m1:=(Q.cell (p:=⟨b,D+(96+2*u+1),none⟩) Kz).trans h1;have m2:=(Q.cell (p:=⟨s.heap.size,3,none⟩) Lj).trans b3;have Lt:=hid Li;have La:=hid Q;clear Li Lq))
    have Y:=uD A1 (bq G H) c1 (bq G H).length w5.heap.size w5 rfl (by omega) Lt.out;have Lg:kSz (bq G H)=bg (bq G H).length:=by simp[kSz,K.out]
    rw[K.out,Lg] at Y;have o:=hid Y;have c1x:w5.cell? ⟨s.heap.size,1,none⟩=some (.int .i64 (sz:Int)):=(La.out.cell (p:=⟨s.heap.size,1,none⟩) Lj).trans (BX.out.cell 1);have Ky:=hid (Lu.out.trans ((kqk _ _).drew.trans (La.out.mono (by show _<=W0.heap.size;omega))));obtain⟨m,Ld⟩:=xq ((bq G H).length);rw[Ld] at d o Eq |-;have Lv:bg m<=10:=by unfold bg;omega
    obtain⟨z,Lf⟩:=xq (bg m);rw[Lf] at o d Lv;have N:Hid (eX G H=if cD G H=true then 0 else 50):=hid rfl;obtain⟨r,hr⟩:=xq (eX G H);obtain⟨ok,Ln⟩:=xq (cD G H);rw[hr] at N HK |-;rw[Ln] at N d HK;clear hr Ln Y Lg Ld Lf m0 m1 m2 h0 h1 b3;cases ok
    .obtain rfl:r=50:=N.out;have C:=hid (HI.out.trans (j.out (by rw[d.out,kx2])));go_wp2_with fail;refine o.out.mono ?_;rintro e w6 ⟨rfl,rfl⟩;go_wp2;go_ret;exact⟨by rw[C.out];rfl,Ky.out⟩
    obtain rfl:r=0:=N.out;rw[kzq] at d;by_cases J:sz=z
    .have ez:((sz:Int) != (z:Int))=false:=by rw[kqr];omega
     have ezn:(sz != z)=false:=by rw[kqr];exact J
     have Kw:mdOk ws i=true:=by rw[d.out,kqx];omega
     have C:=hid (HI.out.trans (S.out Kw));obtain⟨s2,-,s10⟩:=Lr.out Kw;rw[F.out] at C s2 s10;have hwr:IntKind.i64.wrap ((i:Int)+(sz:Int))=(i:Int)+(sz:Int):=kqt _ (by omega);clear J Kw;go_wp2_with fail;refine o.out.mono ?_;rintro e w6 ⟨rfl,rfl⟩;go_wp2;go_roundw
     case rel=>exact⟨i+sz,by omega,by omega,by rw[kjn],C.out,Ky.out⟩
     case measure=>simp[intOf];omega
    have ez:((sz:Int) != (z:Int))=true:=by rw[kqv];omega
    have ezn:(sz != z)=true:=by rw[kqv];exact J
    have C:=hid (HI.out.trans (j.out (by rw[d.out,kqi];omega)));clear J;go_wp2_with fail;refine o.out.mono ?_;rintro e w6 ⟨rfl,rfl⟩;go_wp2;go_ret;exact⟨by rw[C.out];rfl,Ky.out⟩
   rw[kvx,kx2] at d;have C:=hid (HI.out.trans (j.out d.out));clear d j S;go_wp2_with fail;refine (g.out _).mono ?_;rintro e s ⟨rfl,l⟩;have f:=L.trans (l.mono hz);go_wp2;go_ret;exact⟨by rw[C.out];rfl,f.alloc f.size _⟩
  have ek:(E != 1)=true:=by rw[kqv];exact q
  have ek2:(E==1)=false:=by rw[kqi];exact q
  rw[ek2,kx2] at d;have C:=hid (HI.out.trans (j.out d.out));clear d j S q;go_wp2_with fail;refine (g.out _).mono ?_;rintro e s ⟨rfl,l⟩;have f:=L.trans (l.mono hz);go_wp2;go_ret;exact⟨by rw[C.out];rfl,f.alloc f.size _⟩
 have HE:=hid (HI.out.trans (kK (ws:=ws) (i:=i) (t:=t) (by omega)));have hdl:decide ((i:Int)<(t:Int))=false:=by rw[kqh];omega
 have hdln:decide (i<t)=false:=by rw[kqh];exact M
 have Ls:Hid (((i:Int)==(t:Int))=(i==t)):=hid (by rw[kzl,kqx,kqx];omega);clear M;go_wp2;go_ret;exact⟨by rw[HE.out,<-Ls.out];rfl,L⟩
theorem Fh(h:cU ws=r)(h0:r≠0):ax ws=r:=by subst h;simp[ax,h0]
theorem lnV_no(h0:cU ws≠0):lnV ws=phV 0 0 0:=by simp[lnV,h0]
theorem FD(h:cU ws=0)(h4:wd ws 16=4)(hm:mvd ws 128 (wd ws 18)=false):ax ws=50:=by simp[ax,h,h4,hm]
theorem Fb(h:cU ws=0)(h4:wd ws 16=4)(hm:mvd ws 128 (wd ws 18)=true):ax ws=bj ws (wd ws 17:Nat) (wd ws 18:Nat):=by simp[ax,h,h4,hm]
theorem FF(h:cU ws=0)(h3:wd ws 16=3):ax ws=bj ws 128 128:=by simp[ax,h,h3]
theorem Er(h:cU ws=0)(h3:wd ws 16<3):ax ws=aj ws:=by unfold ax;rw[if_pos h,if_neg (by omega),if_neg (by omega)]
theorem vu(A:Option Addr)(ws:List Nat)(c n:Nat)(w:World)(hn:ws.length=n)(hm:n<=9223372036854775807)(hc:n<=c)(J:RdW w w.heap.size A ws)(ho:∀x∈ws,x<18446744073709551616):
 Calls prog 101 #[.slice A n c] w λe w'=>e=.returned (.tuple #[lnV ws,.int .i64 (ax ws)])/\Below w.heap.size w w':=by
 subst hn;have HR:=hid J;have HO:=hid ho;clear J ho;have b0:=Bx.new w 107 #[.int .i64 0,.int .i64 0,.int .i64 0];have HC:=hid (tM A ws c ws.length (w.alloc (.cells #[.int .i64 0,.int .i64 0,.int .i64 0] 107)) rfl hm hc ((HR.out.alloc (kqa _) _).more (by simp)) HO.out);rw[kqm] at HC;by_cases h0:cU ws=0
 .obtain ⟨h1,h2⟩:=iK h0;obtain⟨hs,h3,h4⟩:=gx h1;obtain⟨⟨l0,l1,l2⟩,-⟩:=(bE ws).1 h3;have Le:=ir ws hs;have Ld:lnV ws=phV (wd ws 16) (wd ws 17) (wd ws 18):=by simp[lnV,h0]
  have Lj:wd ws 16<=4:=by rcases (dd _ _ _).1 h4 with h|h|h<;>omega
  have Ky:=hid (λW (h:RdW W W.heap.size A ws)=>J8 A ws c ws.length (wd ws 18) W rfl (by omega) (by omega) l2 h HO.out);have Lg:=hid (λ(f s:Int) hf hs W (h:RdW W W.heap.size A ws)=>rg A ws c ws.length f s W rfl hm hf hs h HO.out);have Lh:=hid (λW (h:RdW W W.heap.size A ws)=>nv A ws c ws.length W rfl hm h HO.out);have La:=hid h0;have L:=hid (λh4 hm=>FD La.out h4 hm);have P:=hid (λh4 hm=>Fb La.out h4 hm);have V:=hid (λh3=>FF La.out h3);have Kw:=hid (λh3=>Er La.out h3);have N:Hid (∀t:World,Below w.heap.size w t->RdW (t.alloc (.cells #[.int .i64 (wd ws 16:Int),.int .i64 (wd ws 17:Int),.int .i64 (wd ws 18:Int)] 107)) (t.alloc (.cells #[.int .i64 (wd ws 16:Int),.int .i64 (wd ws 17:Int),.int .i64 (wd ws 18:Int)] 107)).heap.size A ws):=hid λt h2=>((HR.out.up h2 h2.size).alloc (kqa _) _).more (by simp);rw[h0,Ld] at HC;rw[Ld];unfold phV at HC |-;have hlen2:ws.length<=2048:=Le.2.1;clear h0 h1 h2 hs h3 h4 Ld b0 Le;obtain⟨x,hx⟩:=xq (wd ws 16);obtain⟨y,hy⟩:=xq (wd ws 17);obtain⟨z,hz⟩:=xq (wd ws 18);rw[hx] at Lj;rw[hx,hy,hz] at HC N |-;rw[hx,hz] at L;rw[hx,hy,hz] at P;rw[hx] at V Kw;rw[hz] at Ky l2;rw[hy] at l1;clear hx hy hz l0;by_cases x4:x=4
  .have e4:((x:Int)==4)=true:=by rw[kqx];omega
   have e4n:(x==4)=true:=by rw[kqx];exact x4
   obtain⟨m,Lc⟩:=xq (mvd ws 128 z);rw[Lc] at Ky L P;cases m
   .have K:=hid (L.out x4 rfl);clear L P V Kw x4 Lc;go_enter func101,ntmps101;go_wp2_with fail;refine HC.out.mono ?_;rintro e t ⟨rfl,a⟩;have d:=ay a;have i:=hid (N.out _ d);have H:=Bx.of_new a;have B1:=hid H;have j:=hid d;obtain⟨T,U,Y,Z,f1,f2,G⟩:=H.c3;clear a d H;go_wp2_with fail;have C:=Bx.new t 107 #[.int .i64 (x:Int),.int .i64 (y:Int),.int .i64 (z:Int)];have g:=j.out.alloc j.out.size (.cells #[.int .i64 (x:Int),.int .i64 (y:Int),.int .i64 (z:Int)] 107);have b:=B1.out.alloc (.cells #[.int .i64 (x:Int),.int .i64 (y:Int),.int .i64 (z:Int)] 107);obtain⟨l,D⟩:∃l,t.alloc (.cells #[.int .i64 (x:Int),.int .i64 (y:Int),.int .i64 (z:Int)] 107)=l:=⟨_,rfl⟩;rw[D] at C g b i |-;clear D T U Y Z f1 f2;have R:=C.lt;have Kz:=b.lt;obtain⟨p0,p1,p2,-⟩:=C.c3;have BW:=hid C;have B:=hid g;have E:=hid b;clear C g b;go_quiet (fail);go_wp2_with fail;refine (Ky.out _ (show RdW (l.drewN _) (l.drewN _).heap.size A ws from i.out)).mono ?_;rintro e w2 ⟨rfl,Kx⟩;have o:=(bp (kqk l.heap.size l) _).trans Kx;have BW2:=hid (BW.out.up o BW.out.lt);have Eq:=hid (E.out.up o E.out.lt);have Lb:=hid (B.out.trans (o.mono B.out.size));have Lf:=hid (i.out.up o o.size);obtain⟨p0,p1,p2,-⟩:=BW2.out.c3
    obtain⟨T,U,Y,Z,f1,f2,G⟩:=Eq.out.c3;clear Kx o;go_wp2_with fail;exact kqq (v:=.tuple #[.agg #[.int .i64 (x:Int),.int .i64 (y:Int),.int .i64 (z:Int)],.int .i64 50]) (bD results101 _ (((Eq.out.set_ 0 _).set_ 1 _).set_ 2 _) rfl rfl) rfl ⟨by rw[K.out],((Lb.out.setCell (kqa _) _).setCell (kqa _) _).setCell (kqa _) _⟩
   have K:=hid (P.out x4 rfl);have O:=hid (λW h=>Lg.out (y:Int) (z:Int) (by omega) (by omega) W h);unfold xx at O;obtain⟨r,J⟩:∃r,bj ws (y:Int) (z:Int)=r:=⟨_,rfl⟩;obtain⟨q,hq⟩:∃q,iH ws (y:Int) (z:Int)=q:=⟨_,rfl⟩;rw[J,hq] at O;rw[J] at K;clear L P V Kw x4 Lc J hq;go_enter func101,ntmps101;go_wp2_with fail;refine HC.out.mono ?_;rintro e t ⟨rfl,a⟩;have d:=ay a;have i:=hid (N.out _ d);have H:=Bx.of_new a;have B1:=hid H;have j:=hid d;obtain⟨T,U,Y,Z,f1,f2,G⟩:=H.c3;clear a d H;go_wp2_with fail;have C:=Bx.new t 107 #[.int .i64 (x:Int),.int .i64 (y:Int),.int .i64 (z:Int)];have g:=j.out.alloc j.out.size (.cells #[.int .i64 (x:Int),.int .i64 (y:Int),.int .i64 (z:Int)] 107);have b:=B1.out.alloc (.cells #[.int .i64 (x:Int),.int .i64 (y:Int),.int .i64 (z:Int)] 107);obtain⟨l,D⟩:∃l,t.alloc (.cells #[.int .i64 (x:Int),.int .i64 (y:Int),.int .i64 (z:Int)] 107)=l:=⟨_,rfl⟩;rw[D] at C g b i |-;clear D T U Y Z f1 f2;have R:=C.lt;have Kz:=b.lt;obtain⟨p0,p1,p2,-⟩:=C.c3;have BW:=hid C;have B:=hid g;have E:=hid b;clear C g b;go_quiet (fail);go_wp2_with fail;refine (Ky.out _ (show RdW (l.drewN _) (l.drewN _).heap.size A ws from i.out)).mono ?_;rintro e w2 ⟨rfl,Kx⟩
   have o:=(bp (kqk l.heap.size l) _).trans Kx;have BW2:=hid (BW.out.up o BW.out.lt);have Eq:=hid (E.out.up o E.out.lt);have Lb:=hid (B.out.trans (o.mono B.out.size));have Lf:=hid (i.out.up o o.size);obtain⟨p0,p1,p2,-⟩:=BW2.out.c3;obtain⟨T,U,Y,Z,f1,f2,G⟩:=Eq.out.c3;clear Kx o;go_wp2_with fail;refine (O.out _ Lf.out).mono ?_;rintro e w3 ⟨⟨A1,c1,rfl,-,-⟩,u⟩;have k:=(kqk w2.heap.size w2).trans u;have Q:=hid (BW2.out.up k BW2.out.lt);have F:=hid (Eq.out.up k Eq.out.lt);have S:=hid (Lb.out.trans (k.mono Lb.out.size));obtain⟨p0,p1,p2,-⟩:=Q.out.c3;obtain⟨T,U,Y,Z,f1,f2,G⟩:=F.out.c3;clear u k;by_cases M:r=0
   .subst M;go_wp2_with fail;exact kqq (v:=.tuple #[.agg #[.int .i64 (x:Int),.int .i64 (y:Int),.int .i64 (z:Int)],.int .i64 0]) (bD results101 _ (((F.out.set_ 0 _).set_ 1 _).set_ 2 _) rfl rfl) rfl ⟨by rw[K.out],((S.out.setCell (kqa _) _).setCell (kqa _) _).setCell (kqa _) _⟩
   have Li:(r != 0)=true:=by rw[kqv];exact M
   clear M;go_wp2_with fail;exact kqq (v:=.tuple #[.agg #[.int .i64 (x:Int),.int .i64 (y:Int),.int .i64 (z:Int)],.int .i64 r]) (bD results101 _ (((F.out.set_ 0 _).set_ 1 _).set_ 2 _) rfl rfl) rfl ⟨by rw[K.out],((S.out.setCell (kqa _) _).setCell (kqa _) _).setCell (kqa _) _⟩
  have e4:((x:Int)==4)=false:=by rw[kqi];omega
  have e4n:(x==4)=false:=by rw[kqi];exact x4
  by_cases x3:x=3
  .have e3:((x:Int)==3)=true:=by rw[kqx];omega
   have e3n:(x==3)=true:=by rw[kqx];exact x3
   have K:=hid (V.out x3);have O:=hid (λW h=>Lg.out 128 128 (by omega) (by omega) W h);unfold xx at O;obtain⟨r,J⟩:=xq (bj ws 128 128);obtain⟨q,hq⟩:=xq (iH ws 128 128);rw[J,hq] at O;rw[J] at K;clear L P V Kw x4 x3 J hq;go_enter func101,ntmps101;go_wp2_with fail;refine HC.out.mono ?_;rintro e t ⟨rfl,a⟩;have d:=ay a;have i:=hid (N.out _ d);have H:=Bx.of_new a;have B1:=hid H;have j:=hid d;obtain⟨T,U,Y,Z,f1,f2,G⟩:=H.c3;clear a d H;go_wp2_with fail;have C:=Bx.new t 107 #[.int .i64 (x:Int),.int .i64 (y:Int),.int .i64 (z:Int)];have g:=j.out.alloc j.out.size (.cells #[.int .i64 (x:Int),.int .i64 (y:Int),.int .i64 (z:Int)] 107);have b:=B1.out.alloc (.cells #[.int .i64 (x:Int),.int .i64 (y:Int),.int .i64 (z:Int)] 107);obtain⟨l,D⟩:∃l,t.alloc (.cells #[.int .i64 (x:Int),.int .i64 (y:Int),.int .i64 (z:Int)] 107)=l:=⟨_,rfl⟩;rw[D] at C g b i |-;clear D T U Y Z f1 f2;have R:=C.lt;have Kz:=b.lt;obtain⟨p0,p1,p2,-⟩:=C.c3;have BW:=hid C;have B:=hid g;have E:=hid b;clear C g b;refine (O.out _ i.out).mono ?_;rintro e w3 ⟨⟨A1,c1,rfl,-,-⟩,u⟩;have k:=(kqk l.heap.size l).trans u;have Q:=hid (BW.out.up k BW.out.lt);have F:=hid (E.out.up k E.out.lt);have S:=hid (B.out.trans (k.mono B.out.size));obtain⟨p0,p1,p2,-⟩:=Q.out.c3;obtain⟨T,U,Y,Z,f1,f2,G⟩:=F.out.c3;clear u k;by_cases M:r=0
   .subst M;go_wp2_with fail;exact kqq (v:=.tuple #[.agg #[.int .i64 (x:Int),.int .i64 (y:Int),.int .i64 (z:Int)],.int .i64 0]) (bD results101 _ (((F.out.set_ 0 _).set_ 1 _).set_ 2 _) rfl rfl) rfl ⟨by rw[K.out],((S.out.setCell (kqa _) _).setCell (kqa _) _).setCell (kqa _) _⟩
   have Li:(r != 0)=true:=by rw[kqv];exact M
   clear M;go_wp2_with fail;exact kqq (v:=.tuple #[.agg #[.int .i64 (x:Int),.int .i64 (y:Int),.int .i64 (z:Int)],.int .i64 r]) (bD results101 _ (((F.out.set_ 0 _).set_ 1 _).set_ 2 _) rfl rfl) rfl ⟨by rw[K.out],((S.out.setCell (kqa _) _).setCell (kqa _) _).setCell (kqa _) _⟩
  have e3:((x:Int)==3)=false:=by rw[kqi];omega
  have e3n:(x==3)=false:=by rw[kqi];exact x3
  have K:=hid (Kw.out (by omega));obtain⟨r,J⟩:=xq (aj ws);rw[J] at Lh K;clear L P V Kw x4 x3 J;go_enter func101,ntmps101;go_wp2_with fail;refine HC.out.mono ?_;rintro e t ⟨rfl,a⟩;have d:=ay a;have i:=hid (N.out _ d);have H:=Bx.of_new a;have B1:=hid H;have j:=hid d;obtain⟨T,U,Y,Z,f1,f2,G⟩:=H.c3;clear a d H;go_wp2_with fail;have C:=Bx.new t 107 #[.int .i64 (x:Int),.int .i64 (y:Int),.int .i64 (z:Int)];have g:=j.out.alloc j.out.size (.cells #[.int .i64 (x:Int),.int .i64 (y:Int),.int .i64 (z:Int)] 107);have b:=B1.out.alloc (.cells #[.int .i64 (x:Int),.int .i64 (y:Int),.int .i64 (z:Int)] 107);obtain⟨l,D⟩:∃l,t.alloc (.cells #[.int .i64 (x:Int),.int .i64 (y:Int),.int .i64 (z:Int)] 107)=l:=⟨_,rfl⟩;rw[D] at C g b i |-;clear D T U Y Z f1 f2;have R:=C.lt;have Kz:=b.lt;obtain⟨p0,p1,p2,-⟩:=C.c3;have BW:=hid C;have B:=hid g;have E:=hid b;clear C g b;have I:t.heap.size≠w.heap.size:=by omega
  go_region_held3 (λX:World=>X.cell? ⟨t.heap.size,0,none⟩=some (.int .i64 (x:Int))/\X.cell? ⟨t.heap.size,1,none⟩=some (.int .i64 (y:Int))/\X.cell? ⟨t.heap.size,2,none⟩=some (.int .i64 (z:Int))) (first | exact⟨(((Q.out.far I _).far I _).far I _).cell 0,(((Q.out.far I _).far I _).far I _).cell 1,(((Q.out.far I _).far I _).far I _).cell 2⟩ | go_keep)
   (first | (go_at_call 162;refine (Lh.out _ (show RdW l.drew l.drew.heap.size A ws from i.out)).mono ?_;rintro e w3 ⟨rfl,u⟩;have m0:=(u.cell (p:=⟨t.heap.size,0,none⟩) R).trans p0;have m1:=(u.cell (p:=⟨t.heap.size,1,none⟩) R).trans p1;have m2:=(u.cell (p:=⟨t.heap.size,2,none⟩) R).trans p2;have k:Below l.heap.size l w3:=(kqk l.heap.size l).drew.trans u;have F:=hid (E.out.up k Kz);have Q:=hid (BW.out.up k R);have S:=hid (B.out.trans (k.mono B.out.size));clear u k;obtain⟨T,U,Y,Z,f1,f2,G⟩:=F.out.c3))
  go_wp2_with fail;exact kqq (v:=.tuple #[.agg #[.int .i64 (x:Int),.int .i64 (y:Int),.int .i64 (z:Int)],.int .i64 r]) (bD results101 _ (((F.out.set_ 0 _).set_ 1 _).set_ 2 _) rfl rfl) rfl ⟨by rw[K.out],((S.out.setCell (kqa _) _).setCell (kqa _) _).setCell (kqa _) _⟩
 have K:=hid (λr h=>Fh (ws:=ws) (r:=r) h);rw[lnV_no h0] at HC |-;obtain⟨r,J⟩:=xq (cU ws);rw[J] at HC h0;have K:=hid (K.out r J h0);have Li:(r != 0)=true:=by rw[kqv];exact h0
 unfold phV at HC |-;simp only[kzb] at HC |-;have N:Hid (∀t:World,Below w.heap.size w t->True):=hid λ_ _=>trivial;clear h0 J b0;go_enter func101,ntmps101;go_wp2_with fail;refine HC.out.mono ?_;rintro e t ⟨rfl,a⟩;have d:=ay a;have i:=hid (N.out _ d);have H:=Bx.of_new a;have B1:=hid H;have j:=hid d;obtain⟨T,U,Y,Z,f1,f2,G⟩:=H.c3;clear a d H;go_wp2_with fail;exact kqq (v:=.tuple #[.agg #[.int .i64 0,.int .i64 0,.int .i64 0],.int .i64 r]) (bD results101 _ ((((B1.out.set_ 0 _).set_ 1 _).set_ 2 _).alloc _) rfl rfl) rfl ⟨by rw[K.out],(((j.out.setCell (kqa _) _).setCell (kqa _) _).setCell (kqa _) _).alloc (by simp;exact j.out.size) _⟩
theorem kh(A:Option Addr)(ws:List Nat)(c n:Nat)(w:World)(hn:ws.length=n)(hm:n<=9223372036854775807)(hc:n<=c)(hr:RdW w w.heap.size A ws)(ho:∀x∈ws,x<18446744073709551616):
 Calls prog 52 #[.slice A n c] w λe w'=>e=.returned (.int .i64 (ax ws))/\Below w.heap.size w w':=by
 have d:=hid (vu A ws c n w hn hm hc hr ho);have f:∃x y z:Nat,lnV ws=phV x y z:=by
  unfold lnV;split
  .exact ⟨_,_,_,rfl⟩
  exact⟨0,0,0,rfl⟩
 obtain⟨x,y,z,f⟩:=f;rw[f] at d;unfold phV at d;obtain⟨r,b⟩:=xq (ax ws);rw[b] at d |-;clear b f hr ho hn;go_enter func52,ntmps52;go_wp2_with fail;refine d.out.mono ?_;rintro e w1 ⟨rfl,a⟩;go_wp2;go_ret;exact⟨rfl,a.alloc a.size _⟩
theorem lfN_no(h:ax ws≠0):lfN ws=0:=by simp[lfN,h]
theorem JH(h:wd ws 16<3):lfN ws=0:=by simp[lfN,h]
theorem Ec(h:ax ws=0)(h2:¬ wd ws 16<3):lfN ws=(eQ (aT ws (hU ws))).length:=by unfold lfN;rw[if_pos h,if_neg h2]
theorem jz(h:ax ws=0):cU ws=0:=by
 unfold ax at h;split at h
 .assumption
 exact h
theorem zh(hk:k<l.length):(eQ (l.take (k+1))).length=(eQ (l.take k)).length+(if l[k].mark=true then 1 else 0):=by rw[sw hk,kqs];split<;>rfl
theorem J0(A:Option Addr)(ws:List Nat)(c n:Nat)(w:World)(hn:ws.length=n)(hm:n<=9223372036854775807)(hc:n<=c)(C:RdW w w.heap.size A ws)(ho:∀x∈ws,x<18446744073709551616):
 Calls prog 164 #[.slice A n c] w λe w'=>e=.returned (.tuple #[.int .i64 (lfN ws:Nat),.int .i64 (ax ws)])/\Below w.heap.size w w':=by
 subst hn;have p:=hid (vu A ws c ws.length w rfl hm hc C ho);have HR:=hid C;have HO:=hid ho;clear C ho;by_cases o:ax ws=0
 .obtain ⟨h1,-⟩:=iK (jz o);obtain⟨hs,h3,h4⟩:=gx h1;obtain⟨⟨l0,l1,l2⟩,-⟩:=(bE ws).1 h3;have I:=ir ws hs;have M:lnV ws=phV (wd ws 16) (wd ws 17) (wd ws 18):=by simp[lnV,jz o]
  have j:=hid (λh=>JH (ws:=ws) h);have f:=hid (λh=>Ec o h);have s:=hid (λW (h:RdW W W.heap.size A ws)=>mV A ws c ws.length (hU ws) W rfl hm h HO.out);unfold rx at s;have S:=iR ws (hU ws);have B:Hid (hU ws=if (wd ws 17:Int)<128 then 128 else (wd ws 17:Int)):=hid rfl;have F:Hid (∀t:World,Below w.heap.size w t->RdW (t.alloc (.cells #[.int .i64 (wd ws 16:Int),.int .i64 (wd ws 17:Int),.int .i64 (wd ws 18:Int)] 107)) (t.alloc (.cells #[.int .i64 (wd ws 16:Int),.int .i64 (wd ws 17:Int),.int .i64 (wd ws 18:Int)] 107)).heap.size A ws):=hid λt h2=>((HR.out.up h2 h2.size).alloc (kqa _) _).more (by simp);rw[o,M] at p;rw[o];unfold phV at p;have hlen2:ws.length<=2048:=I.2.1;clear o h1 hs h3 h4 M I;obtain⟨x,E⟩:=xq (wd ws 16);obtain⟨y,Z⟩:=xq (wd ws 17);obtain⟨z,T⟩:=xq (wd ws 18);obtain⟨g,O⟩:=xq (hU ws);obtain⟨l,Y⟩:=xq (aT ws g);obtain⟨r,C⟩:=xq (cj ws g);obtain⟨N,hN⟩:=xq (lfN ws);rw[O,Y,C] at s;rw[hN] at j f |-;rw[O,Y] at f;rw[O,Y] at S;rw[O,Z] at B;rw[E,Z,T] at p F;rw[E] at j f;rw[Z] at l1;clear E Z T O Y C hN l0 l2;by_cases D:x<3
  .have hd:decide ((x:Int)<3)=true:=by rw[kqo];omega
   have Eq:decide (x<3)=true:=by rw[kqo];exact D
   have R:=hid (j.out D);clear j f D B;go_enter func164,ntmps164;go_wp2_with fail;refine p.out.mono ?_;rintro e t ⟨rfl,a⟩;go_wp2;go_ret2;exact⟨by rw[R.out];rfl,a.alloc a.size _⟩
  have hd:decide ((x:Int)<3)=false:=by rw[kqh];omega
  have Eq:decide (x<3)=false:=by rw[kqh];exact D
  have R:=hid (f.out D);clear j f D;go_enter func164,ntmps164;go_wp2_with fail;refine p.out.mono ?_;rintro e t ⟨rfl,a⟩;have Kw:=hid (F.out _ a);have Q:=hid a;clear a;go_wp2_with fail
  all_goals
   have U:Hid (∀q,g=q->∀W:World,RdW W W.heap.size A ws->Calls prog 65 #[.slice A ws.length c,.int .i64 q] W λe w'=>(∃A c,e=Ending.returned (.tuple #[.slice A l.length c,.int .i64 r])/\RdB w' w'.heap.size A l/\l.length<=c)/\Below W.heap.size W w'):=hid (λq hq=>by rw[<-hq];exact s.out);refine (U.out _ (by rw[B.out];first|rw[if_pos (by assumption)] | rw[if_neg (by omega)]) _ Kw.out).mono ?_;rintro e w2 ⟨⟨A1,c1,rfl,L,-⟩,u⟩;rw[kqm] at u;have V:=hid (Q.out.trans ((ay u).mono Q.out.size));have Kx:=hid L;have Ky:=V.out.size;clear L u U;go_wp2_with fail;go_loopw [8,32] (λm i wr=>∃k:Nat,k<=l.length/\i=.int .i64 k/\m=.int .i64 ((eQ (l.take k)).length:Nat)/\Below w2.heap.size w2 wr) (λ_ i _=>l.length-(intOf i).toNat)
   case atStart=>exact⟨0,kqz _,rfl,rfl,kqk _ _⟩
   obtain⟨k,hk,rfl,rfl,H⟩:=hrel;have T:=H.size;by_cases J:k<l.length
   .obtain ⟨b,off,rfl,hbw,q0,q1,q2,q3,q4,q5⟩:=RdB.at_ (Kx.out.below H) J;have d:=hid (zh J);have G:=E9 (l.take k);rw[kq4] at G;obtain⟨m,K⟩:=xq ((eQ (l.take k)).length);rw[K] at d G |-;obtain⟨x',E⟩:∃x,l[k]=x:=⟨_,rfl⟩;rw[E] at q0 q1 q2 q3 q4 q5 d;obtain⟨xa,xs,xk,xt,xm,xn⟩:=x';dsimp only at q0 q1 q2 q3 q4 q5 d;have hlm:(k:Int)<(l.length:Int):=by omega
    have hmk:(m:Int)<=4611686018427387904:=by omega
    clear E K;cases xm
    .have v:=hid (d.out.trans (kxa m));clear d;go_wp2;go_roundw
     case rel=>exact⟨k+1,by omega,by go_num,by rw[v.out],H.alloc T _⟩
     case measure=>simp[intOf];omega
    have v:=hid (show (eQ (l.take (k+1))).length=m+1 from d.out);clear d;go_wp2;go_roundw
    case rel=>exact⟨k+1,by omega,by go_num,by rw[v.out];go_num,H.alloc T _⟩
    case measure=>simp[intOf];omega
   rw[kq8 (by omega)];rw[<-R.out];go_wp2;go_ret2;exact⟨rfl,V.out.trans (H.mono Ky)⟩
 have R:=hid (lfN_no o);have X:∃x y z:Nat,lnV ws=phV x y z:=by
  unfold lnV;split
  .exact ⟨_,_,_,rfl⟩
  exact⟨0,0,0,rfl⟩
 obtain⟨x,y,z,X⟩:=X;rw[X] at p;unfold phV at p;obtain⟨r,P⟩:=xq (ax ws);rw[P] at p o |-;have hrn:(r != 0)=true:=by rw[kqv];exact o
 clear P X o;go_enter func164,ntmps164;go_wp2_with fail;refine p.out.mono ?_;rintro e t ⟨rfl,a⟩;go_wp2;go_ret2;exact⟨by rw[R.out];rfl,a.alloc a.size _⟩
end Go.Proofs.YtpcajamacpbjcaaGreat
