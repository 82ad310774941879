/- Texts laid together: PhP Ph Cur1 Mvd Ck Left. -/
import Derived.Test.YtpcajamacpbjcaaGreatZKHead
import Derived.Test.YtpcajamacpbjcaaGreatZKPlain
import Derived.Test.YtpcajamacpbjcaaGreatZKHeap
import Derived.Deep.RegionHeld3
import Derived.Deep.DrawnRows
import Derived.Laws.BitsLemmas
import Derived.Test.YtpcajamacpbjcaaGreatZKMove
set_option maxHeartbeats 16000000
set_option maxRecDepth 100000
set_option linter.all false
namespace Go.Proofs.YtpcajamacpbjcaaGreat
open Lib (hid)
variable {r:Int}{l:List Bk}{ws:List Nat}{f i k t:Nat}
open Go.Proofs.Tryz
def lz (n:Nat):Bool:=decide (128<=n)&&(decide (n<=2048)&&n%2==0)
theorem aT(n:Nat):lz n=true↔128<=n/\n<=2048/\n%2=0:=by simp[lz]
def AE (p f t:Nat):Bool:=if p=4 then lz f&&(lz t&&decide (t<=f)) else if t≠0 then false else if p=3 then f==0||lz f else decide (p<3)&&f==0
theorem cG(p f t:Nat):AE p f t=true↔p=4/\lz f=true/\lz t=true/\t<=f\/p=3/\t=0/\(f=0\/lz f=true)\/p<3/\t=0/\f=0:=by
 unfold AE;split
 .rename_i h;subst h;simp
 rename_i h4;split
 .rename_i h;simp[h4,h]
 rename_i h;have a:t=0:=by omega
 subst a;split
 .rename_i h3;subst h3;simp
 rename_i h3;simp[h4,h3]
def iY (ws:List Nat):Bool:=(decide (wd ws 16<=ws.length)&&(decide (wd ws 17<=ws.length)&&decide (wd ws 18<=ws.length)))&&(wd ws 19==0&&(wd ws 20==0&&(wd ws 21==0&&(wd ws 22==0&&wd ws 23==0))))
def cu (ws:List Nat):Int:=if ap (ws.length:Int)=true then (if (iY ws&&AE (wd ws 16) (wd ws 17) (wd ws 18))=true then 0 else 50) else 8
def phV (p f t:Nat):Value:=.agg #[.int .i64 (p:Int),.int .i64 (f:Int),.int .i64 (t:Int)]
def prV (ws:List Nat):Value:=if cu ws=0 then phV (wd ws 16) (wd ws 17) (wd ws 18) else phV 0 0 0
theorem qw(h:ap (ws.length:Int)=false):cu ws=8/\prV ws=phV 0 0 0:=by simp[prV,cu,h]
theorem qe(h:ap (ws.length:Int)=true)(h2:(iY ws&&AE (wd ws 16) (wd ws 17) (wd ws 18))=false):cu ws=50/\prV ws=phV 0 0 0:=by simp[prV,cu,h,h2]
theorem mm(h:ap (ws.length:Int)=true)(h2:(iY ws&&AE (wd ws 16) (wd ws 17) (wd ws 18))=true):cu ws=0/\prV ws=phV (wd ws 16) (wd ws 17) (wd ws 18):=by simp[prV,cu,h,h2]
theorem fV(h:cu ws=0):ap (ws.length:Int)=true/\iY ws=true/\AE (wd ws 16) (wd ws 17) (wd ws 18)=true:=by
 unfold cu at h;split at h
 .split at h
  .rename_i h1 h2;simp only[kqo] at h2;exact⟨h1,h2⟩
  simp at h
 simp at h
theorem rA(ws:List Nat):cu ws=0\/cu ws=8\/cu ws=50:=by
 unfold cu;split
 .split<;>simp
 simp
theorem bq(ws:List Nat):iY ws=true↔(wd ws 16<=ws.length/\wd ws 17<=ws.length/\wd ws 18<=ws.length)/\wd ws 19=0/\wd ws 20=0/\wd ws 21=0/\wd ws 22=0/\wd ws 23=0:=by simp[iY]
theorem Ea(hi:i<8)(h:i<3/\ws.length<wd ws (16+i)\/3<=i/\wd ws (16+i)≠0):iY ws=false:=by
 cases a:iY ws with
 | false=>rfl
 | true =>
  obtain⟨⟨a0,a1,a2⟩,a3,a4,a5,a6,a7⟩:=(bq ws).1 a;exfalso
  match i,hi with
  | 0,_=>simp only[kz8] at h;omega
  | 1,_=>simp only[Nat.reduceAdd] at h;omega
  | 2,_=>simp only[Nat.reduceAdd] at h;omega
  | 3,_=>simp only[Nat.reduceAdd] at h;omega
  | 4,_=>simp only[Nat.reduceAdd] at h;omega
  | 5,_=>simp only[Nat.reduceAdd] at h;omega
  | 6,_=>simp only[Nat.reduceAdd] at h;omega
  | 7,_=>simp only[Nat.reduceAdd] at h;omega
def nM (ws:List Nat) (f:Nat):Bool:=match blocks ws 128 with
 | none=>false
 | some l=>l.any (λb=>b.at_==(f:Int))||f==ws.length
def cF (ws:List Nat):Int:=if cu ws=0 then (if wd ws 16=3/\wd ws 17≠0/\nM ws (wd ws 17)=false then 50 else 0) else cu ws
def lnV (ws:List Nat):Value:=if cF ws=0 then phV (wd ws 16) (wd ws 17) (wd ws 18) else phV 0 0 0
theorem ic(h:cF ws=0):cu ws=0/\(wd ws 16=3->wd ws 17≠0->nM ws (wd ws 17)=true):=by
 unfold cF at h;split at h
 .rename_i h1;refine⟨h1,λa c=>?_⟩;split at h
  .simp at h
  rename_i h4;cases b:nM ws (wd ws 17) with
  | true=>rfl
  | false=>exact absurd ⟨a,c,b⟩ h4
 rename_i h1;exact absurd h h1
theorem Bh(ws:List Nat):cF ws=0\/cF ws=8\/cF ws=50:=by
 unfold cF;split
 .split<;>simp
 exact rA ws
def mdOk (ws:List Nat) (i:Nat):Bool:=aM (wd ws i)&&((ar (wd ws i)).kind==1&&(!(ar (wd ws i)).mark&&cK ws (ar (wd ws i))))
def tC (ws:List Nat):Nat->Nat->Nat->Bool
 | 0,i,t=>i==t
 | f+1,i,t=>if i<t then mdOk ws i&&tC ws f (i+szAt ws i) t else i==t
theorem lB(h:mdOk ws i=true):2<=szAt ws i/\szAt ws i%2=0/\szAt ws i<=10:=by unfold mdOk aM at h;simp only[kqo,kqw] at h;obtain⟨⟨a,-⟩,h2,-⟩:=h;have h3:=(bt _).1 a;have e:(ar (wd ws i)).size=((szAt ws i:Nat):Int):=rfl;omega
theorem mz :∀ {f i g:Nat},t-i<=f->t-i<=g->tC ws f i t=tC ws g i t:=by
 intro f
 induction f with
 | zero =>
  intro i g h a;cases g with
  | zero=>rfl
  | succ g=>simp only[tC];rw[if_neg (by omega)]
 | succ f ih =>
  intro i g h a;cases g with
  | zero=>simp only[tC];rw[if_neg (by omega)]
  | succ g =>
   simp only[tC];split
   .cases b:mdOk ws i with
    | false=>simp
    | true =>have:=lB b;rw[ih (i:=i+szAt ws i) (by omega) (g:=g) (by omega)]
   rfl
def mvd (ws:List Nat) (i t:Nat):Bool:=tC ws t i t
theorem jY(h:t<=i):mvd ws i t=(i==t):=by unfold mvd;rw[mz (g:=0) (by omega) (by omega)];rfl
theorem kH(h:i<t)(h2:mdOk ws i=true):mvd ws i t=mvd ws (i+szAt ws i) t:=by unfold mvd;have:=lB h2;rw[mz (g:=t+1) (by omega) (by omega),tC,if_pos h,h2,kzx]
theorem sN(h:i<t)(h2:mdOk ws i=false):mvd ws i t=false:=by unfold mvd;rw[mz (g:=t+1) (by omega) (by omega),tC,if_pos h,h2,kxp]
def aw (ws:List Nat):Int:=if cF ws=0 then (if wd ws 16=4 then (if mvd ws 128 (wd ws 18)=true then aW ws (wd ws 17:Nat) (wd ws 18:Nat) else 50) else if wd ws 16=3 then aW ws 128 128 else ah ws) else cF ws
def gm (ws:List Nat):Int:=if (wd ws 17:Int)<128 then 128 else (wd ws 17:Int)
def lfN (ws:List Nat):Nat:=if aw ws=0 then (if wd ws 16<3 then 0 else (eG (aJ ws (gm ws))).length) else 0
open Go.RowKit
theorem BJ(n:Int):bits .and .i64 n 1=n%2:=by
 have b:(BitVec.ofInt 64 1).toNat=2 ^ 1-1:=by decide
 have a:(BitVec.ofInt 64 n &&& BitVec.ofInt 64 1).toNat=(n%((2 ^ 64:Nat):Int)).toNat%2 ^ 1:=by rw[BitVec.toNat_and,BitVec.toNat_ofInt,b,kxo]
 show IntKind.i64.wrap ((BitVec.ofInt 64 n &&& BitVec.ofInt 64 1).toNat:Nat)=n%2;rw[a,IntKind.wrap_i64];omega
theorem Aw(n:Nat)(w:World)(hn:n<=4611686018427387904):Calls prog 217 #[.int .i64 (n:Int)] w λe w'=>e=.returned (.bool (lz n))/\w=w':=by
 have H:Hid (∀b:Bool,(b=true↔128<=n/\n<=2048/\n%2=0)->b=lz n):=hid λb h=>by rw[kzq,aT,h]
 have ha:=BJ (n:Int);go_enter func217,ntmps217;go_wp2_with fail
 all_goals
  go_ret;exact⟨mV (H.out _ (by simp;omega)),rfl⟩
def r6 (p f t:Nat):Int:=if AE p f t=true then 0 else 8
theorem Dd(p f t:Nat)(w:World)(hp:p<=4611686018427387904)(hf:f<=4611686018427387904)(ht:t<=4611686018427387904):
 Calls prog 163 #[phV p f t] w λe w'=>e=.returned (.int .i64 (r6 p f t))/\Below w.heap.size w w':=by
 have i:=hid (λW=>Aw f W hf);have j:=hid (λW=>Aw t W ht);have b:Hid (∀r:Int,r=(if (if p=4 then lz f&&(lz t&&decide (t<=f)) else if t≠0 then false else if p=3 then f==0||lz f else decide (p<3)&&f==0)=true then 0 else 8)->r6 p f t=r):=hid λr h=>by rw[h];rfl
 have y:=(kqk w.heap.size w).alloc (kqa _) (.cells #[.int .i64 (p:Int),.int .i64 (f:Int),.int .i64 (t:Int)] 107);have c:=hid y;unfold phV;clear y;by_cases k:p=4
 .subst k;cases a:lz f
  .rw[a] at i;have d:=hid (b.out 8 (by rw[if_pos rfl,a];rfl));clear b j a;(try simp only[kq9] at c |-);go_enter func163,ntmps163;go_wp2_with fail;refine (i.out _).mono ?_;rintro e m ⟨rfl,rfl⟩;go_wp2;go_ret;exact⟨by rw[d.out];rfl,c.out⟩
  cases g:lz t
  .rw[a] at i;rw[g] at j;have d:=hid (b.out 8 (by rw[if_pos rfl,a,g];rfl));clear b a g;(try simp only[kq9] at c |-);go_enter func163,ntmps163;go_wp2_with fail;refine (i.out _).mono ?_;rintro e m ⟨rfl,rfl⟩;go_wp2_with fail;refine (j.out _).mono ?_;rintro e m ⟨rfl,rfl⟩;go_wp2;go_ret;exact⟨by rw[d.out];rfl,c.out⟩
  rw[a] at i;rw[g] at j;by_cases s:t<=f
  .have v:decide ((t:Int)<=(f:Int))=true:=by rw[kq0];omega
   have l:decide (t<=f)=true:=by rw[kq0];omega
   have d:=hid (b.out 0 (by rw[if_pos rfl,a,g,l];rfl));clear b a g s;(try simp only[kq9] at c |-);go_enter func163,ntmps163;go_wp2_with fail;refine (i.out _).mono ?_;rintro e m ⟨rfl,rfl⟩;go_wp2_with fail;refine (j.out _).mono ?_;rintro e m ⟨rfl,rfl⟩;go_wp2;go_ret;exact⟨by rw[d.out];rfl,c.out⟩
  have v:decide ((t:Int)<=(f:Int))=false:=by rw[kqh];omega
  have l:decide (t<=f)=false:=by rw[kqh];omega
  have d:=hid (b.out 8 (by rw[if_pos rfl,a,g,l];rfl));clear b a g s;(try simp only[kq9] at c |-);go_enter func163,ntmps163;go_wp2_with fail;refine (i.out _).mono ?_;rintro e m ⟨rfl,rfl⟩;go_wp2_with fail;refine (j.out _).mono ?_;rintro e m ⟨rfl,rfl⟩;go_wp2;go_ret;exact⟨by rw[d.out];rfl,c.out⟩
 have e4:((p:Int)==4)=false:=by rw[kqj];omega
 have e4n:(p==4)=false:=by rw[kqj];omega
 by_cases u:t=0
 .subst u;by_cases o:p=3
  .subst o;by_cases n:f=0
   .subst n;have d:=hid (b.out 0 (by simp));clear b i j k;(try simp only[kq9] at c |-);go_enter func163,ntmps163;go_wp2;go_ret;exact⟨by rw[d.out];rfl,c.out⟩
   have z:((f:Int)==0)=false:=by rw[kqj];omega
   have x:(f==0)=false:=by rw[kqj];omega
   cases a:lz f
   .rw[a] at i;have d:=hid (b.out 8 (by simp[a,n]));clear b j a k n;(try simp only[kq9] at c |-);go_enter func163,ntmps163;go_wp2_with fail;refine (i.out _).mono ?_;rintro e m ⟨rfl,rfl⟩;go_wp2;go_ret;exact⟨by rw[d.out];rfl,c.out⟩
   rw[a] at i;have d:=hid (b.out 0 (by simp[a]));clear b j a k n;(try simp only[kq9] at c |-);go_enter func163,ntmps163;go_wp2_with fail;refine (i.out _).mono ?_;rintro e m ⟨rfl,rfl⟩;go_wp2;go_ret;exact⟨by rw[d.out];rfl,c.out⟩
  have e3:((p:Int)==3)=false:=by rw[kqj];omega
  have e3n:(p==3)=false:=by rw[kqj];omega
  have p0:(0:Int)<=(p:Int):=by omega
  by_cases q:p<3
  .have v:decide ((p:Int)<3)=true:=by rw[kq0];omega
   have l:decide (p<3)=true:=by rw[kq0];omega
   by_cases n:f=0
   .subst n;have d:=hid (b.out 0 (by simp[k,o,q]));clear b i j k o q;(try simp only[kq9] at c |-);go_enter func163,ntmps163;go_wp2;go_ret;exact⟨by rw[d.out];rfl,c.out⟩
   have z:((f:Int)==0)=false:=by rw[kqj];omega
   have x:(f==0)=false:=by rw[kqj];omega
   have d:=hid (b.out 8 (by simp[k,o,q,n]));clear b i j k o q n;(try simp only[kq9] at c |-);go_enter func163,ntmps163;go_wp2;go_ret;exact⟨by rw[d.out];rfl,c.out⟩
  have v:decide ((p:Int)<3)=false:=by rw[kqh];omega
  have l:decide (p<3)=false:=by rw[kqh];omega
  have d:=hid (b.out 8 (by simp[k,o,q]));clear b i j k o q;(try simp only[kq9] at c |-);go_enter func163,ntmps163;go_wp2;go_ret;exact⟨by rw[d.out];rfl,c.out⟩
 have et:((t:Int) != 0)=true:=by rw[kqu];omega
 have etn:(t != 0)=true:=by rw[kqu];omega
 have d:=hid (b.out 8 (by rw[if_neg k,if_pos u];rfl));clear b i j k u;(try simp only[kq9] at c |-);go_enter func163,ntmps163;go_wp2;go_ret;exact⟨by rw[d.out];rfl,c.out⟩
def rT (ws:List Nat) (k:Nat):Array Value:=#[.int .i64 (if 0<k then (wd ws 16:Int) else 0),.int .i64 (if 1<k then (wd ws 17:Int) else 0),.int .i64 (if 2<k then (wd ws 18:Int) else 0)]
theorem zH(ws:List Nat)(hk:k<3):(rT ws k).setIfInBounds k (.int .i64 (wd ws (16+k):Int))=rT ws (k+1):=by
 match k,hk with
 | 0,_=>rfl
 | 1,_=>rfl
 | 2,_=>rfl
theorem uY(ws:List Nat)(hk:3<=k):rT ws (k+1)=rT ws k:=by unfold rT;rw[if_pos (by omega),if_pos (by omega),if_pos (by omega),if_pos (by omega),if_pos (by omega),if_pos (by omega)]
theorem uZ(ws:List Nat)(hk:k<3):∃u,(rT ws k)[k]? = some u:=by
 match k,hk with
 | 0,_=>exact⟨_,rfl⟩
 | 1,_=>exact⟨_,rfl⟩
 | 2,_=>exact⟨_,rfl⟩
def okTo (ws:List Nat) (k:Nat):Prop:=∀i,i<k->(i<3->wd ws (16+i)<=ws.length)/\(3<=i->wd ws (16+i)=0)
theorem Aa(ws:List Nat):okTo ws 0:=λi h=>absurd h (by omega)
theorem zI(h:okTo ws k)(h1:(k<3->wd ws (16+k)<=ws.length)/\(3<=k->wd ws (16+k)=0)):okTo ws (k+1):=λi hi=>by
 rcases kq6 i k with a|a
 .exact h i a
 .have:i=k:=by omega
  subst this;exact h1
theorem zy(h:okTo ws 8):iY ws=true:=by rw[bq];exact⟨⟨(h 0 (by omega)).1 (by omega),(h 1 (by omega)).1 (by omega),(h 2 (by omega)).1 (by omega)⟩,(h 3 (by omega)).2 (by omega),(h 4 (by omega)).2 (by omega),(h 5 (by omega)).2 (by omega),(h 6 (by omega)).2 (by omega),(h 7 (by omega)).2 (by omega)⟩
theorem vM(h:ap (ws.length:Int)=true)(h2:iY ws=false):cu ws=50/\prV ws=phV 0 0 0:=qe h (by rw[h2,kxp])
theorem CC(h:ap (ws.length:Int)=true)(h2:r6 (wd ws 16) (wd ws 17) (wd ws 18)≠0):cu ws=50/\prV ws=phV 0 0 0:=qe h (by
 unfold r6 at h2;cases a:AE (wd ws 16) (wd ws 17) (wd ws 18) with
 | false=>rw[kjv]
 | true=>rw[a] at h2;exact absurd rfl h2)
theorem vR(h:ap (ws.length:Int)=true)(h1:iY ws=true)(h2:r6 (wd ws 16) (wd ws 17) (wd ws 18)=0):cu ws=0/\prV ws=phV (wd ws 16) (wd ws 17) (wd ws 18):=mm h (by
 unfold r6 at h2;cases a:AE (wd ws 16) (wd ws 17) (wd ws 18) with
 | true=>rw[h1];rfl
 | false=>rw[a] at h2;cases h2)
theorem bo{fn:Func}{p q:Tmp}(h:fn.results=#[.cell p 107,.tmp q])(tmps:Array Value){W:World}{g:Nat}{t:TypeId}{v0 v1 v2 u:Value}(hb:Bx W g t #[v0,v1,v2])(hp:tmps.getD p undef=.pointer (some ⟨g,0,none⟩))(hq:tmps.getD q undef=u):
 (results fn tmps).run prog W=.ok (.tuple #[.agg #[v0,v1,v2],u]) W:=by obtain⟨c,a,b,-⟩:=hb.c3;rw[kxl] at hp hq;simp[results,h,hp,hq,go_sem,c,a,b]
theorem EV(A:Option Addr)(ws:List Nat)(c n:Nat)(w:World)(hn:ws.length=n)(hm:n<=9223372036854775807)(hc:n<=c)(Q:RdW w w.heap.size A ws)(ho:∀x∈ws,x<18446744073709551616):
 Calls prog 102 #[.slice A n c] w λe w'=>e=.returned (.tuple #[prV ws,.int .i64 (cu ws)])/\Below w.heap.size w w':=by
 subst hn;have HR:=hid Q;have HO:=hid ho;clear Q ho;have f:=Bx.new w 107 #[.int .i64 0,.int .i64 0,.int .i64 0];cases K:ap (ws.length:Int)
 .have HI:=hid (cn K);have l:=hid (qw K);have H:=hid f;clear K f;go_enter func102,ntmps102;go_wp2_with fail;refine (aB A ws.length c _ hm).mono ?_;rintro e w1 ⟨rfl,rfl⟩;rw[HI.out];go_wp2_with fail;refine kqr (v:=.tuple #[.agg #[.int .i64 0,.int .i64 0,.int .i64 0],.int .i64 8]) (bo results102 _ H.out rfl rfl) rfl ⟨by rw[l.out.1,l.out.2];rfl,(kqk _ _).alloc (kqa _) _⟩
 have HI:=hid (bG K);obtain⟨hb1,G,-⟩:=gJ ws K;have HS:=hid K;have H:=hid f;obtain⟨b,off,rfl,hb,-⟩:=RdW.at_ HR.out (show 0<ws.length by omega);have HC:Hid (∀k (h:k<8) (W:World),Below w.heap.size w W->W.cell? ⟨b,off+16+k,none⟩=some (.int .u64 (wd ws (16+k):Int))):=hid λk h W C=>by
  obtain⟨b',off',e',-,Y⟩:=RdW.at_ (Rd.below HR.out C) (show 16+k<ws.length by omega);cases e';rw[<-d7,<-kj2] at Y;exact Y
 have Jd:Hid (∀k,wd ws k<18446744073709551616):=hid (gu HO.out);have hc24:(24:Int)<=(c:Int):=by omega
 have hc16:((c:Int)==16)=false:=by rw[kqj];omega
 have hc16n:(c==16)=false:=by rw[kqj];omega
 have hne:¬ c=16:=by omega
 clear K f;go_enter func102,ntmps102;go_wp2_with fail;refine (aB _ ws.length c _ hm).mono ?_;rintro e w1 ⟨rfl,rfl⟩;rw[HI.out];go_wp2_with fail;go_loopw [20] (λi wr=>∃k:Nat,k<=8/\i=.int .i64 k/\Hid (okTo ws k)/\Bx wr w.heap.size 107 #[.int .i64 0,.int .i64 0,.int .i64 0]/\Bx wr (w.heap.size+1) 226 (rT ws k)/\Below w.heap.size w wr) (λi _=>8-(intOf i).toNat)
 case atStart =>
  have x1:=Bx.new (w.alloc (.cells #[.int .i64 0,.int .i64 0,.int .i64 0] 107)) 226 #[.int .i64 0,.int .i64 0,.int .i64 0];rw[kqm] at x1;exact⟨0,kqy _,rfl,Aa ws,H.out.alloc _,x1,((kqk _ _).alloc (kqa _) _).alloc (by simp) _⟩
 obtain⟨k,hk,rfl,U,f,q,C⟩:=hrel;have hz:=C.size;by_cases P:k<8
 .have Y:=HC.out k P _ C;have Jb:=Jd.out (16+k);have g:=hid (λh=>zI U.out h);have j:=hid (λh=>vM HS.out (Ea P h));have d:=hid (λh=>zH ws (k:=k) h);have p:=hid (λh=>uY ws (k:=k) h);have o:=hid (λh=>uZ ws (k:=k) h);obtain⟨x,M⟩:=xq (wd ws (16+k));rw[M] at Y Jb g j d;have hk1:(k:Int)<8:=by omega
  have hk0:(0:Int)<=(k:Int):=by omega
  have hx1:(0:Int)<=(x:Int):=by omega
  clear M;by_cases F:k<3
  .have Ja:decide ((k:Int)<3)=true:=by rw[kq0];omega
   have V:decide (k<3)=true:=by rw[kq0];omega
   obtain⟨u,hu⟩:=o.out F;by_cases s:x<=ws.length
   .have Jc:decide ((x:Int)<=(ws.length:Int))=true:=by rw[kq0];omega
    have N:decide (x<=ws.length)=true:=by rw[kq0];omega
    have HY:=hid (g.out ⟨λ_=>s,λh=>absurd h (by omega)⟩);have HZ:=hid (d.out F);have Z:=(q.cell k).trans hu;have X:=q.frozen k;have B:=hid f;have B1:=hid q;have hxw:IntKind.i64.wrap (x:Int)=(x:Int):=kqv _ (by omega);clear g j d p o f q hu s;go_wp2;go_roundw
    case rel=>exact⟨k+1,by omega,by go_num,HY.out,B.out.far (by simp) _,by rw[<-HZ.out];exact B1.out.set_ k _,C.setCell (by simp) _⟩
    case measure=>simp[intOf];omega
   have Jc:decide ((x:Int)<=(ws.length:Int))=false:=by rw[kqh];omega
   have N:decide (x<=ws.length)=false:=by rw[kqh];exact s
   have l:=hid (j.out (.inl ⟨F,by omega⟩));have B:=hid f;obtain⟨c0,Z,c2,f0,X,f2,L⟩:=f.c3;clear g j d p o f q hu s;go_wp2_with fail;refine kqr (v:=.tuple #[.agg #[.int .i64 0,.int .i64 0,.int .i64 0],.int .i64 50]) (bo results102 _ (((B.out.set_ 0 _).set_ 1 _).set_ 2 _) rfl rfl) rfl ⟨by rw[l.out.1,l.out.2];rfl,((C.setCell (by simp) _).setCell (by simp) _).setCell (by simp) _⟩
  have Ja:decide ((k:Int)<3)=false:=by rw[kqh];omega
  have V:decide (k<3)=false:=by rw[kqh];omega
  by_cases a:x=0
  .have Eq:((x:Int) != 0)=false:=by rw[kqq];omega
   have O:(x != 0)=false:=by rw[kqq];exact a
   have HY:=hid (g.out ⟨λh=>absurd h F,λ_=>a⟩);have HZ:=hid (p.out (by omega));have B:=hid f;have B1:=hid q;clear g j d p o f q a;go_wp2;go_roundw
   case rel=>exact⟨k+1,by omega,by go_num,HY.out,B.out,by rw[HZ.out];exact B1.out,C⟩
   case measure=>simp[intOf];omega
  have Eq:((x:Int) != 0)=true:=by rw[kqu];omega
  have O:(x != 0)=true:=by rw[kqu];exact a
  have l:=hid (j.out (.inr ⟨by omega,a⟩));have B:=hid f;obtain⟨c0,Z,c2,f0,X,f2,L⟩:=f.c3;clear g j d p o f q a;go_wp2_with fail;refine kqr (v:=.tuple #[.agg #[.int .i64 0,.int .i64 0,.int .i64 0],.int .i64 50]) (bo results102 _ (((B.out.set_ 0 _).set_ 1 _).set_ 2 _) rfl rfl) rfl ⟨by rw[l.out.1,l.out.2];rfl,((C.setCell (by simp) _).setCell (by simp) _).setCell (by simp) _⟩
 obtain rfl:k=8:=by omega
 have R:=hid (zy U.out);obtain⟨⟨l0,l1,l2⟩,-⟩:=(bq ws).1 R.out;have E:=hid (λW=>Dd (wd ws 16) (wd ws 17) (wd ws 18) W (by omega) (by omega) (by omega));have J:=hid (λh=>CC HS.out h);have t:=hid (λh=>vR HS.out R.out h);have S:Bx wr (w.heap.size+1) 226 #[.int .i64 (wd ws 16:Int),.int .i64 (wd ws 17:Int),.int .i64 (wd ws 18:Int)]:=q;obtain⟨c0,Z,c2,-⟩:=S.c3;obtain⟨q0,q1,q2,f0,X,f2,L⟩:=f.c3;unfold phV at E t;obtain⟨x,M⟩:=xq (wd ws 16);obtain⟨y,hy⟩:=xq (wd ws 17);obtain⟨z,I⟩:=xq (wd ws 18);rw[M,hy,I] at E J t;rw[M] at c0;rw[hy] at Z;rw[I] at c2;have B:=hid f;have HB:=hid C;clear f q S l0 l1 l2 M hy I;obtain⟨r,Q⟩:=xq (r6 x y z);rw[Q] at E J t;clear Q;go_wp2_with fail;refine (E.out _).mono ?_;rintro e w2 ⟨rfl,D⟩;rw[kqm] at D;have G:=ax D;have b3:=hid (B.out.up G L);have n3:=Bx.of_new D;obtain⟨q0,q1,q2,f0,X,f2,hgl2⟩:=b3.out.c3;obtain⟨n0,n1,n2,-⟩:=n3.c3;have T:=hid (HB.out.trans (G.mono HB.out.size));clear D G n3;by_cases m:r=0
 .have l:=hid (t.out m);subst m;go_wp2_with fail;refine kqr (v:=.tuple #[.agg #[.int .i64 (x:Int),.int .i64 (y:Int),.int .i64 (z:Int)],.int .i64 0]) (bo results102 _ (((b3.out.set_ 0 _).set_ 1 _).set_ 2 _) rfl rfl) rfl ⟨by rw[l.out.1,l.out.2],((T.out.setCell (by simp) _).setCell (by simp) _).setCell (by simp) _⟩
 have l:=hid (J.out m);have hrn:(r != 0)=true:=by rw[kqu];exact m
 clear m;go_wp2_with fail;refine kqr (v:=.tuple #[.agg #[.int .i64 0,.int .i64 0,.int .i64 0],.int .i64 50]) (bo results102 _ (((b3.out.set_ 0 _).set_ 1 _).set_ 2 _) rfl rfl) rfl ⟨by rw[l.out.1,l.out.2];rfl,((T.out.setCell (by simp) _).setCell (by simp) _).setCell (by simp) _⟩
def noAt (l:List Bk) (f:Nat) (k:Nat):Prop:=∀j,j<k->(gk l j).at_≠(f:Int)
theorem yD(l:List Bk)(f:Nat):noAt l f 0:=λj h=>absurd h (by omega)
theorem zz(h:noAt l f k)(h2:(gk l k).at_≠(f:Int)):noAt l f (k+1):=λj hj=>by
 rcases kq6 j k with a|a
 .exact h j a
 .have:j=k:=by omega
  subst this;exact h2
theorem bd_no(hs:ap (ws.length:Int)=true)(h:bJ ws 128≠0)(f:Nat):nM ws f=false:=by
 unfold nM;cases a:blocks ws 128 with
 | none=>rfl
 | some l=>exact absurd (cy hs (gP hs) a).1 h
theorem bd_at(hb:blocks ws 128=some l)(hk:k<l.length)(h:(gk l k).at_=(f:Int)):nM ws f=true:=by unfold nM;rw[hb];simp only[kxw,kjq];refine .inl ⟨l[k],kqp hk,?_⟩;rw[bM l k hk] at h;rw[kqw];exact h
theorem bd_end(hb:blocks ws 128=some l)(h:noAt l f l.length):nM ws f=(f==ws.length):=by
 unfold nM;rw[hb];have:l.any (λb=>b.at_==(f:Int))=false:=by rw[List.any_eq_false];intro b c;obtain⟨k,a,rfl⟩:=kq2 c;have:=h k a;rw[bM l k a] at this;rw[kqw];exact this
 show (l.any (λb=>b.at_==(f:Int))||f==ws.length)=_;rw[this,Bool.false_or]
theorem vg(A:Option Addr)(ws:List Nat)(c n f:Nat)(w:World)(hn:ws.length=n)(hs:ap (n:Int)=true)(hr:RdW w w.heap.size A ws)(ho:∀x∈ws,x<18446744073709551616):
 Calls prog 103 #[.slice A n c,.int .i64 (f:Int)] w λe w'=>e=.returned (.bool (nM ws f))/\Below w.heap.size w w':=by
 subst hn;have E:=gJ ws hs;have C:=hid (lR A ws c ws.length 128 w rfl (by omega) hr ho);unfold pp at C;have j:=hid (λh=>bd_no hs h f);have g:Hid (bJ ws 128=0->blocks ws 128=some (aJ ws 128)):=hid λh=>(yf h).2;have s:=iq ws 128;obtain⟨r,q⟩:=xq (bJ ws 128);obtain⟨l,J⟩:=xq (aJ ws 128);rw[q,J] at C g;rw[J] at s;rw[q] at j;clear q J hr ho hs E;by_cases m:r=0
 .subst m;have G:=hid (λk (h:k<l.length) W=>bd_at (g.out rfl) h W (f:=f));have D:=hid (λh=>bd_end (g.out rfl) (f:=f) h);clear j g;go_enter func103,ntmps103;go_wp2_with fail;refine C.out.mono ?_;rintro e I ⟨⟨V,X,rfl,t,-⟩,d⟩;have y:=d.size;have H:=hid t;clear t;go_wp2_with fail;go_loopw [18] (λi wr=>∃k:Nat,k<=l.length/\i=.int .i64 k/\Hid (noAt l f k)/\Below I.heap.size I wr) (λi _=>l.length-(intOf i).toNat)
  case atStart=>exact⟨0,kqy _,rfl,yD l f,kqk _ _⟩
  obtain⟨k,hk,rfl,M,v⟩:=hrel;have N:=v.size;by_cases o:k<l.length
  .obtain ⟨b,off,rfl,hbw,Q,R,S,O,P,T⟩:=RdB.at_ (H.out.below v) o;have z:=hid (λh=>zz M.out h);have B:=hid (λh=>G.out k o h);rw[bM l k o] at z B;obtain⟨x,L⟩:=xq (l[k]);rw[L] at Q R S O P T z B;obtain⟨F,xs,xk,xt,xm,xn⟩:=x;dsimp only at Q R S O P T z B;have hlm:(k:Int)<(l.length:Int):=by omega
   clear L;by_cases a:F=(f:Int)
   .have U:(F==(f:Int))=true:=by rw[kqw];exact a
    have p:=hid (B.out a);clear a;go_wp2;go_ret;exact⟨by rw[p.out];rfl,d.trans ((v.alloc N _).mono y)⟩
   have U:(F==(f:Int))=false:=by rw[kqj];exact a
   have p:=hid (z.out a);clear a;go_wp2;go_roundw
   case rel=>exact⟨k+1,by omega,by go_num,p.out,v.alloc N _⟩
   case measure=>simp[intOf];omega
  have p:=hid (D.out (by have:=M.out;rwa [show k=l.length by omega] at this));have u:((f:Int)==(ws.length:Int))=(f==ws.length):=by rw[kzq,kqw,kqw];omega
  have K:=hid u;clear u;go_wp2;go_ret;exact⟨by rw[p.out,<-K.out];rfl,d.trans (v.mono y)⟩
 have hn1:(r != 0)=true:=by rw[kqu];exact m
 have p:=hid (j.out m);clear m j g;go_enter func103,ntmps103;go_wp2_with fail;refine C.out.mono ?_;rintro e I ⟨⟨V,X,rfl,-,-⟩,d⟩;go_wp2;go_ret;exact⟨by rw[p.out];rfl,d⟩
theorem uE(h:cu ws=r)(h0:r≠0):cF ws=r/\lnV ws=phV 0 0 0:=by subst h;simp[cF,lnV,h0]
theorem Dg(h:cu ws=0)(h1:wd ws 16=3)(h2:wd ws 17≠0)(h3:nM ws (wd ws 17)=false):cF ws=50/\lnV ws=phV 0 0 0:=by simp[cF,lnV,h,h1,h2,h3]
theorem Cq(h:cu ws=0)(h3:wd ws 16=3->wd ws 17≠0->nM ws (wd ws 17)=true):cF ws=0/\lnV ws=phV (wd ws 16) (wd ws 17) (wd ws 18):=by
 have:cF ws=0:=by unfold cF;rw[if_pos h,if_neg];rintro ⟨a,b,c⟩;rw[h3 a b] at c;cases c
 simp[lnV,this]
theorem tO(A:Option Addr)(ws:List Nat)(c n:Nat)(w:World)(hn:ws.length=n)(hm:n<=9223372036854775807)(hc:n<=c)(D:RdW w w.heap.size A ws)(ho:∀x∈ws,x<18446744073709551616):
 Calls prog 55 #[.slice A n c] w λe w'=>e=.returned (.tuple #[lnV ws,.int .i64 (cF ws)])/\Below w.heap.size w w':=by
 subst hn;have HR:=hid D;have HO:=hid ho;clear D ho;have b0:=Bx.new w 107 #[.int .i64 0,.int .i64 0,.int .i64 0];cases P:ap (ws.length:Int)
 .have H:=hid (cn P);have m:=hid (uE (qw P).1 (by omega));have k:=hid b0;clear P b0;go_enter func55,ntmps55;go_wp2_with fail;refine (aB A ws.length c _ hm).mono ?_;rintro e l ⟨rfl,rfl⟩;rw[H.out];go_wp2_with fail;refine kqr (v:=.tuple #[.agg #[.int .i64 0,.int .i64 0,.int .i64 0],.int .i64 8]) (bo results55 _ k.out rfl rfl) rfl ⟨by rw[m.out.1,m.out.2];rfl,(kqk _ _).alloc (kqa _) _⟩
 have H:=hid (bG P);have HS:=hid P;have t:=hid (EV A ws c ws.length (w.alloc (.cells #[.int .i64 0,.int .i64 0,.int .i64 0] 107)) rfl hm hc ((HR.out.alloc (kqa _) _).more (by simp)) HO.out);rw[kqm] at t;have F:Hid (∀r,cu ws=r->r≠0->cF ws=r/\lnV ws=phV 0 0 0):=hid λr h h0=>uE h h0;have C:=rA ws;clear P b0;by_cases j:cu ws=0
 .have o:=hid (λh1 X h3=>Dg j h1 X h3);have f:=hid (λh1=>Cq j h1);obtain⟨g1,g2⟩:=mm HS.out (by have:=(fV j).2;rw[this.1,this.2];rfl);rw[g1,g2] at t;have B:=hid (λW (h:RdW W W.heap.size A ws)=>vg A ws c ws.length (wd ws 17) W rfl HS.out h HO.out);unfold phV at t f;obtain⟨x,Y⟩:=xq (wd ws 16);obtain⟨y,V⟩:=xq (wd ws 17);obtain⟨z,hz⟩:=xq (wd ws 18);obtain⟨bd,Q⟩:=xq (nM ws y);rw[Y,V,hz] at t f;rw[Y,V] at o;rw[V] at B;rw[Q] at B o f;clear j g1 g2 Y V hz Q F C;have T:∀(l:World),Below (w.heap.size+1) (w.alloc (.cells #[.int .i64 0,.int .i64 0,.int .i64 0] 107)) l->RdW (l.alloc (.cells #[.int .i64 (x:Int),.int .i64 (y:Int),.int .i64 (z:Int)] 107)) (l.alloc (.cells #[.int .i64 (x:Int),.int .i64 (y:Int),.int .i64 (z:Int)] 107)).heap.size A ws:=λl h=>by
   have X:=ax h;exact ((HR.out.up X X.size).alloc (kqa _) _).more (by simp)
  have k:=hid T;clear T;by_cases E:x=3
  .have e1:((x:Int)==3)=true:=by rw[kqw];omega
   have e1n:(x==3)=true:=by rw[kqw];exact E
   by_cases I:y=0
   .have e2:((y:Int) != 0)=false:=by rw[kqq];omega
    have Z:(y != 0)=false:=by rw[kqq];exact I
    have m:=hid (f.out (λ_ h=>absurd I h));clear o f E I;go_enter func55,ntmps55;go_wp2_with fail;refine (aB A ws.length c _ hm).mono ?_;rintro e l ⟨rfl,rfl⟩;rw[H.out];go_wp2_with fail;refine t.out.mono ?_;rintro e l ⟨rfl,a⟩;have s:=hid (k.out _ a);have g:=Bx.of_new a;have d:=ax a;have u:=hid g;have b:=hid d;obtain⟨L,N,O,K,J,M,q⟩:=g.c3;clear a d g;go_wp2_with fail;exact kqr (v:=.tuple #[.agg #[.int .i64 (x:Int),.int .i64 (y:Int),.int .i64 (z:Int)],.int .i64 0]) (bo results55 _ ((((u.out.set_ 0 _).set_ 1 _).set_ 2 _).alloc _) rfl rfl) rfl ⟨by rw[m.out.1,m.out.2],(((b.out.setCell (kqa _) _).setCell (kqa _) _).setCell (kqa _) _).alloc (by simp;exact b.out.size) _⟩
   have e2:((y:Int) != 0)=true:=by rw[kqu];omega
   have Z:(y != 0)=true:=by rw[kqu];exact I
   cases bd
   .have m:=hid (o.out E I rfl);clear o f E I;go_enter func55,ntmps55;go_wp2_with fail;refine (aB A ws.length c _ hm).mono ?_;rintro e l ⟨rfl,rfl⟩;rw[H.out];go_wp2_with fail;refine t.out.mono ?_;rintro e l ⟨rfl,a⟩;have s:=hid (k.out _ a);have g:=Bx.of_new a;have d:=ax a;have u:=hid g;have b:=hid d;obtain⟨L,N,O,K,J,M,q⟩:=g.c3;clear a d g;go_wp2_with fail;refine (B.out _ s.out).mono ?_;rintro e w2 ⟨rfl,i⟩;rw[kqm] at i;have U:=Bx.of_new i;have p:=ax i;have R:=hid (u.out.up p q);have G:=hid (b.out.trans (p.mono b.out.size));obtain⟨L,N,O,K,J,M,S⟩:=R.out.c3;obtain⟨n0,n1,n2',-⟩:=U.c3;clear i p U;go_wp2_with fail;exact kqr (v:=.tuple #[.agg #[.int .i64 0,.int .i64 0,.int .i64 0],.int .i64 50]) (bo results55 _ (((R.out.set_ 0 _).set_ 1 _).set_ 2 _) rfl rfl) rfl ⟨by rw[m.out.1,m.out.2];rfl,((G.out.setCell (kqa _) _).setCell (kqa _) _).setCell (kqa _) _⟩
   have m:=hid (f.out (λ_ _=>rfl));clear o f E I;go_enter func55,ntmps55;go_wp2_with fail;refine (aB A ws.length c _ hm).mono ?_;rintro e l ⟨rfl,rfl⟩;rw[H.out];go_wp2_with fail;refine t.out.mono ?_;rintro e l ⟨rfl,a⟩;have s:=hid (k.out _ a);have g:=Bx.of_new a;have d:=ax a;have u:=hid g;have b:=hid d;obtain⟨L,N,O,K,J,M,q⟩:=g.c3;clear a d g;go_wp2_with fail;refine (B.out _ s.out).mono ?_;rintro e w2 ⟨rfl,i⟩;rw[kqm] at i;have U:=Bx.of_new i;have p:=ax i;have R:=hid (u.out.up p q);have G:=hid (b.out.trans (p.mono b.out.size));obtain⟨L,N,O,K,J,M,S⟩:=R.out.c3;obtain⟨n0,n1,n2',-⟩:=U.c3;clear i p U;go_wp2_with fail;exact kqr (v:=.tuple #[.agg #[.int .i64 (x:Int),.int .i64 (y:Int),.int .i64 (z:Int)],.int .i64 0]) (bo results55 _ (((R.out.set_ 0 _).set_ 1 _).set_ 2 _) rfl rfl) rfl ⟨by rw[m.out.1,m.out.2],((G.out.setCell (kqa _) _).setCell (kqa _) _).setCell (kqa _) _⟩
  have e1:((x:Int)==3)=false:=by rw[kqj];omega
  have e1n:(x==3)=false:=by rw[kqj];exact E
  have m:=hid (f.out (λh=>absurd h E));clear o f E;go_enter func55,ntmps55;go_wp2_with fail;refine (aB A ws.length c _ hm).mono ?_;rintro e l ⟨rfl,rfl⟩;rw[H.out];go_wp2_with fail;refine t.out.mono ?_;rintro e l ⟨rfl,a⟩;have s:=hid (k.out _ a);have g:=Bx.of_new a;have d:=ax a;have u:=hid g;have b:=hid d;obtain⟨L,N,O,K,J,M,q⟩:=g.c3;clear a d g;go_wp2_with fail;exact kqr (v:=.tuple #[.agg #[.int .i64 (x:Int),.int .i64 (y:Int),.int .i64 (z:Int)],.int .i64 0]) (bo results55 _ ((((u.out.set_ 0 _).set_ 1 _).set_ 2 _).alloc _) rfl rfl) rfl ⟨by rw[m.out.1,m.out.2],(((b.out.setCell (kqa _) _).setCell (kqa _) _).setCell (kqa _) _).alloc (by simp;exact b.out.size) _⟩
 obtain⟨r,D⟩:=xq (cu ws);have m:=hid (F.out r D (by rw[<-D];exact j));have hv:prV ws=phV 0 0 0:=by simp[prV,j]
 rw[D,hv] at t;rw[D] at j C;have hn1:(r != 0)=true:=by rw[kqu];exact j
 unfold phV at t;have k:Hid (∀l:World,Below (w.heap.size+1) (w.alloc (.cells #[.int .i64 0,.int .i64 0,.int .i64 0] 107)) l->True):=hid λ_ _=>trivial;clear j D F hv;go_enter func55,ntmps55;go_wp2_with fail;refine (aB A ws.length c _ hm).mono ?_;rintro e l ⟨rfl,rfl⟩;rw[H.out];go_wp2_with fail;refine t.out.mono ?_;rintro e l ⟨rfl,a⟩;have s:=hid (k.out _ a);have g:=Bx.of_new a;have d:=ax a;have u:=hid g;have b:=hid d;obtain⟨L,N,O,K,J,M,q⟩:=g.c3;clear a d g;go_wp2_with fail;exact kqr (v:=.tuple #[.agg #[.int .i64 0,.int .i64 0,.int .i64 0],.int .i64 r]) (bo results55 _ ((((u.out.set_ 0 _).set_ 1 _).set_ 2 _).alloc _) rfl rfl) rfl ⟨by rw[m.out.1,m.out.2];rfl,(((b.out.setCell (kqa _) _).setCell (kqa _) _).setCell (kqa _) _).alloc (by simp;exact b.out.size) _⟩
theorem Gq(h:aM (wd ws i)=false):mdOk ws i=false:=by unfold mdOk;rw[h,kxp]
theorem CX(h:aM (wd ws i)=true):mdOk ws i=((ar (wd ws i)).kind==1&&(!(ar (wd ws i)).mark&&cK ws (ar (wd ws i)))):=by unfold mdOk;rw[h,kzx]
theorem EW{x:Nat}(h:aM x=true)(hk:(ar x).kind=1):(ar x).typ<8:=by unfold aM at h;simp only[kqo] at h;have:=(bt _).1 h.1;omega
theorem Fb(A:Option Addr)(ws:List Nat)(c n t:Nat)(w:World)(hn:ws.length=n)(hm:n<=1000000)(h2:256<=n)(ht:t<=n)(hr:RdW w w.heap.size A ws)(ho:∀x∈ws,x<18446744073709551616):
 Calls prog 160 #[.slice A n c,.int .i64 (t:Int)] w λe w'=>e=.returned (.bool (mvd ws 128 t))/\Below w.heap.size w w':=by
 subst hn;have HR:=hid hr;have Ja:Hid (∀k,wd ws k<18446744073709551616):=hid (gu ho);obtain⟨b,D,rfl,hb,-⟩:=RdW.at_ hr (show 0<ws.length by omega);have Z:Hid (∀k (h:k<ws.length) (W:World),Below w.heap.size w W->W.cell? ⟨b,D+k,none⟩=some (.int .u64 (wd ws k:Int))):=hid λk h W O=>by
  obtain⟨b',off',e',-,h0⟩:=RdW.at_ (Rd.below HR.out O) h;cases e';rw[<-d7] at h0;exact h0
 have Jy:=hid (λxa xs F (t:Nat) xm xn=>ud ws xa xs F t xm xn);clear hr ho;obtain⟨V,hV⟩:=xq (mvd ws 128 t);have HV:=hid hV;rw[hV];clear hV;go_enter func160,ntmps160;go_wp2_with fail;go_loopw [5] (λa wr=>∃i:Nat,128<=i/\i<=1000020/\a=.int .i64 i/\Hid (V=mvd ws i t)/\Below w.heap.size w wr) (λa _=>t-(intOf a).toNat)
 case atStart=>exact⟨128,by omega,by omega,rfl,hid HV.out.symm,kqk _ _⟩
 obtain⟨i,hi,hi2,rfl,HI,O⟩:=hrel;have hz:=O.size;by_cases L:i<t
 .have j:=hid (λh=>sN (ws:=ws) (t:=t) L h);have T:=hid (λh=>kH (ws:=ws) (t:=t) L h);have M:=hid (λh=>Gq (ws:=ws) (i:=i) h);have S:=hid (λh=>CX (ws:=ws) (i:=i) h);have N:=hid (λh hk=>EW (x:=wd ws i) h hk);have g:=hid (λW=>mR (wd ws i) W (Ja.out i));have p0:=Z.out i (by omega) _ O;have hit:(i:Int)<(t:Int):=by omega
  have hi0:(0:Int)<=(i:Int):=by omega
  have hin:(i:Int)<(ws.length:Int):=by omega
  have E:Hid (szAt ws i=(ar (wd ws i)).size.toNat):=hid rfl;have R:Hid (0<=(ar (wd ws i)).size/\(ar (wd ws i)).size<=65535/\0<=(ar (wd ws i)).typ):=hid (by
   have h1:wd ws i/65536%65536<65536:=kz4 _ (by omega);unfold ar;dsimp only;omega)
  have Jz:=hid (λh=>lB (ws:=ws) (i:=i) h);obtain⟨x,hx⟩:=xq (wd ws i);rw[hx] at p0 M S N g E R;clear hx;cases I:aM x
  .rw[(oE I).1,(oE I).2] at g;unfold nE Bk.val at g;dsimp only at g;have C:=hid (HI.out.trans (j.out (M.out I)));clear I j T M S N;go_wp2_with fail;refine (g.out _).mono ?_;rintro e v ⟨rfl,o⟩;have f:=O.trans (o.mono hz);go_wp2;go_ret;exact⟨by rw[C.out];rfl,f.alloc f.size _⟩
  have HSO:=hid I;rw[(nQ I).1,(nQ I).2] at g;have d:=hid (S.out I);have s:=hid (λhk=>N.out I hk);clear I M S N;obtain⟨y,hy⟩:=xq (ar x);have Jt:y.at_=0/\y.next=0:=by rw[<-hy];exact⟨rfl,rfl⟩
  rw[hy] at g d s E R;clear hy;obtain⟨xa,xs,F,xt,xm,xn⟩:=y;dsimp only at Jt d s E R;obtain⟨rfl,rfl⟩:=Jt;unfold Bk.val at g;dsimp only at g;by_cases q:F=1
  .have ek:(F != 1)=false:=by rw[kqq];exact q
   have ek2:(F==1)=true:=by rw[kqw];exact q
   have ht8:=s.out q;obtain⟨r1,r2,r3⟩:=R.out;obtain⟨u,rfl⟩:=kqz r3;obtain⟨sz,rfl⟩:=kqz r1;rw[kqi] at E;rw[ek2,kzx] at d;clear q s r1 r3;cases xm
   .rw[Bool.not_false,kzx,Jy.out] at d;have Jo:=Ja.out (96+2*u);have Jq:=Ja.out (96+2*u+1);have HC:=hid (λW=>pA (wd ws (96+2*u)) (wd ws (96+2*u+1)) W Jo Jq);have HK:=hid (mt (wd ws (96+2*u)) (wd ws (96+2*u+1)));have Eq:=mx (wd ws (96+2*u)) (wd ws (96+2*u+1));have K:=hid (nf (wd ws (96+2*u)) (wd ws (96+2*u+1)));have Jj:=hid (Z.out (96+2*u) (by omega));have Jd:=hid (Z.out (96+2*u+1) (by omega));obtain⟨H,Jg⟩:=xq (wd ws (96+2*u));obtain⟨G,Jp⟩:=xq (wd ws (96+2*u+1));rw[Jg] at Jj HC HK K Eq d;rw[Jp] at Jd HC HK K Eq d;clear Jg Jp Jo Jq;have t0:(0:Int)<=(u:Int):=by omega
    have v:IntKind.i64.wrap (2*(u:Int))=2*(u:Int):=kqv _ (by omega);have w2:IntKind.i64.wrap (96+2*(u:Int))=96+2*(u:Int):=kqv _ (by omega);have w3:IntKind.i64.wrap (96+2*(u:Int)+1)=96+2*(u:Int)+1:=kqv _ (by omega);have i1:(0:Int)<=96+2*(u:Int):=by omega
    have i2:(96:Int)+2*(u:Int)<(ws.length:Int):=by omega
    have i3:(0:Int)<=96+2*(u:Int)+1:=by omega
    have i4:(96:Int)+2*(u:Int)+1<(ws.length:Int):=by omega
    have n1:((96:Int)+2*(u:Int)).toNat=96+2*u:=by omega
    have n2:((96:Int)+2*(u:Int)+1).toNat=96+2*u+1:=by omega
    go_wp2_with fail;refine (g.out _).mono ?_;rintro e v ⟨rfl,o⟩;have f:=O.trans (o.mono hz);have B:=f.alloc f.size (.cells #[.int .i64 0,.int .i64 (sz:Int),.int .i64 F,.int .i64 (u:Int),.bool false,.int .u64 ((0:Nat):Int)] 55);have bx:=Bx.new v 55 #[.int .i64 0,.int .i64 (sz:Int),.int .i64 F,.int .i64 (u:Int),.bool false,.int .u64 ((0:Nat):Int)];have Y:(v.alloc (.cells #[.int .i64 0,.int .i64 (sz:Int),.int .i64 F,.int .i64 (u:Int),.bool false,.int .u64 ((0:Nat):Int)] 55)).heap.size=v.heap.size+1:=by simp
    have hw1:=f.size;simp only[kq9] at bx B Y;clear p0 o f;go_wp2_with fail;obtain⟨W0,Jr⟩:∃W0,v.alloc (.cells #[.int .i64 0,.int .i64 (sz:Int),.int .i64 F,.int .i64 (u:Int),.bool false,.int .u64 0] 55)=W0:=⟨_,rfl⟩;rw[Jr] at bx B Y |-;clear Jr;have h0:=Jj.out _ B;have h1:=Jd.out _ B;have b3:W0.cell? ⟨v.heap.size,3,none⟩=some (.int .i64 (u:Int)):=bx.cell 3;have Jl:b<W0.heap.size:=by omega
    have Jm:v.heap.size<W0.heap.size:=by omega
    have BX:=hid bx;have Jv:=hid B;clear bx B Y
    go_region_held3 (λX:World=>X.cell? ⟨b,D+(96+2*u),none⟩=some (.int .u64 (H:Int))/\X.cell? ⟨b,D+(96+2*u+1),none⟩=some (.int .u64 (G:Int))/\X.cell? ⟨v.heap.size,3,none⟩=some (.int .i64 (u:Int))) (go_keep)
     (first | (go_at_call 117;refine (HC.out _).mono ?_;rintro e w5 ⟨⟨A1,c1,rfl,Jf,Ju⟩,P⟩;have m0:=(P.cell (p:=⟨b,D+(96+2*u),none⟩) Jl).trans h0;have m1:=(P.cell (p:=⟨b,D+(96+2*u+1),none⟩) Jl).trans h1;have m2:=(P.cell (p:=⟨v.heap.size,3,none⟩) Jm).trans b3;have Jw:=hid Jf;have Js:=hid P;clear Jf Ju))
    have Jc:=sH A1 (bB H G) c1 (bB H G).length w5.heap.size w5 rfl (by omega) Jw.out;have Ji:kSz (bB H G)=bZ (bB H G).length:=by simp[kSz,K.out]
    rw[K.out,Ji] at Jc;have l:=hid Jc;have c1x:w5.cell? ⟨v.heap.size,1,none⟩=some (.int .i64 (sz:Int)):=(Js.out.cell (p:=⟨v.heap.size,1,none⟩) Jm).trans (BX.out.cell 1);have U:=hid (Jv.out.trans ((kqk _ _).drew.trans (Js.out.mono (by show _<=W0.heap.size;omega))));obtain⟨m,Je⟩:=xq ((bB H G).length);rw[Je] at d l Eq |-;have Kb:bZ m<=10:=by unfold bZ;omega
    obtain⟨z,Jh⟩:=xq (bZ m);rw[Jh] at l d Kb;have Q:Hid (gI H G=if cw H G=true then 0 else 50):=hid rfl;obtain⟨r,hr⟩:=xq (gI H G);obtain⟨ok,Jk⟩:=xq (cw H G);rw[hr] at Q HK |-;rw[Jk] at Q d HK;clear hr Jk Jc Ji Je Jh m0 m1 m2 h0 h1 b3;cases ok
    .obtain rfl:r=50:=Q.out;have C:=hid (HI.out.trans (j.out (by rw[d.out,kxp])));go_wp2_with fail;refine l.out.mono ?_;rintro e w6 ⟨rfl,rfl⟩;go_wp2;go_ret;exact⟨by rw[C.out];rfl,U.out⟩
    obtain rfl:r=0:=Q.out;rw[kzx] at d;by_cases J:sz=z
    .have ez:((sz:Int) != (z:Int))=false:=by rw[kqq];omega
     have ezn:(sz != z)=false:=by rw[kqq];exact J
     have Jb:mdOk ws i=true:=by rw[d.out,kqw];omega
     have C:=hid (HI.out.trans (T.out Jb));obtain⟨s2,-,s10⟩:=Jz.out Jb;rw[E.out] at C s2 s10;have hwr:IntKind.i64.wrap ((i:Int)+(sz:Int))=(i:Int)+(sz:Int):=kqv _ (by omega);clear J Jb;go_wp2_with fail;refine l.out.mono ?_;rintro e w6 ⟨rfl,rfl⟩;go_wp2;go_roundw
     case rel=>exact⟨i+sz,by omega,by omega,by rw[kjk],C.out,U.out⟩
     case measure=>simp[intOf];omega
    have ez:((sz:Int) != (z:Int))=true:=by rw[kqu];omega
    have ezn:(sz != z)=true:=by rw[kqu];exact J
    have C:=hid (HI.out.trans (j.out (by rw[d.out,kqj];omega)));clear J;go_wp2_with fail;refine l.out.mono ?_;rintro e w6 ⟨rfl,rfl⟩;go_wp2;go_ret;exact⟨by rw[C.out];rfl,U.out⟩
   rw[Bool.not_true,kxp] at d;have C:=hid (HI.out.trans (j.out d.out));clear d j T;go_wp2_with fail;refine (g.out _).mono ?_;rintro e v ⟨rfl,o⟩;have f:=O.trans (o.mono hz);go_wp2;go_ret;exact⟨by rw[C.out];rfl,f.alloc f.size _⟩
  have ek:(F != 1)=true:=by rw[kqu];exact q
  have ek2:(F==1)=false:=by rw[kqj];exact q
  rw[ek2,kxp] at d;have C:=hid (HI.out.trans (j.out d.out));clear d j T q;go_wp2_with fail;refine (g.out _).mono ?_;rintro e v ⟨rfl,o⟩;have f:=O.trans (o.mono hz);go_wp2;go_ret;exact⟨by rw[C.out];rfl,f.alloc f.size _⟩
 have HE:=hid (HI.out.trans (jY (ws:=ws) (i:=i) (t:=t) (by omega)));have hdl:decide ((i:Int)<(t:Int))=false:=by rw[kqh];omega
 have hdln:decide (i<t)=false:=by rw[kqh];exact L
 have Ka:Hid (((i:Int)==(t:Int))=(i==t)):=hid (by rw[kzq,kqw,kqw];omega);clear L;go_wp2;go_ret;exact⟨by rw[HE.out,<-Ka.out];rfl,O⟩
theorem CV(h:cF ws=r)(h0:r≠0):aw ws=r:=by subst h;simp[aw,h0]
theorem lnV_no(h0:cF ws≠0):lnV ws=phV 0 0 0:=by simp[lnV,h0]
theorem DD(h:cF ws=0)(h4:wd ws 16=4)(hm:mvd ws 128 (wd ws 18)=false):aw ws=50:=by simp[aw,h,h4,hm]
theorem CK(h:cF ws=0)(h4:wd ws 16=4)(hm:mvd ws 128 (wd ws 18)=true):aw ws=aW ws (wd ws 17:Nat) (wd ws 18:Nat):=by simp[aw,h,h4,hm]
theorem DQ(h:cF ws=0)(h3:wd ws 16=3):aw ws=aW ws 128 128:=by simp[aw,h,h3]
theorem Dy(h:cF ws=0)(h3:wd ws 16<3):aw ws=ah ws:=by unfold aw;rw[if_pos h,if_neg (by omega),if_neg (by omega)]
theorem tK(A:Option Addr)(ws:List Nat)(c n:Nat)(w:World)(hn:ws.length=n)(hm:n<=9223372036854775807)(hc:n<=c)(J:RdW w w.heap.size A ws)(ho:∀x∈ws,x<18446744073709551616):
 Calls prog 101 #[.slice A n c] w λe w'=>e=.returned (.tuple #[lnV ws,.int .i64 (aw ws)])/\Below w.heap.size w w':=by
 subst hn;have HR:=hid J;have HO:=hid ho;clear J ho;have b0:=Bx.new w 107 #[.int .i64 0,.int .i64 0,.int .i64 0];have HC:=hid (tO A ws c ws.length (w.alloc (.cells #[.int .i64 0,.int .i64 0,.int .i64 0] 107)) rfl hm hc ((HR.out.alloc (kqa _) _).more (by simp)) HO.out);rw[kqm] at HC;by_cases h0:cF ws=0
 .obtain ⟨h1,h2⟩:=ic h0;obtain⟨hs,h3,h4⟩:=fV h1;obtain⟨⟨l0,l1,l2⟩,-⟩:=(bq ws).1 h3;have Jl:=gJ ws hs;have Jh:lnV ws=phV (wd ws 16) (wd ws 17) (wd ws 18):=by simp[lnV,h0]
  have Jo:wd ws 16<=4:=by rcases (cG _ _ _).1 h4 with h|h|h<;>omega
  have Jc:=hid (λW (h:RdW W W.heap.size A ws)=>Fb A ws c ws.length (wd ws 18) W rfl (by omega) (by omega) l2 h HO.out);have Ji:=hid (λ(f s:Int) hf hs W (h:RdW W W.heap.size A ws)=>pE A ws c ws.length f s W rfl hm hf hs h HO.out);have Jk:=hid (λW (h:RdW W W.heap.size A ws)=>my A ws c ws.length W rfl hm h HO.out);have Jd:=hid h0;have N:=hid (λh4 hm=>DD Jd.out h4 hm);have L:=hid (λh4 hm=>CK Jd.out h4 hm);have Ja:=hid (λh3=>DQ Jd.out h3);have Eq:=hid (λh3=>Dy Jd.out h3);have R:Hid (∀t:World,Below w.heap.size w t->RdW (t.alloc (.cells #[.int .i64 (wd ws 16:Int),.int .i64 (wd ws 17:Int),.int .i64 (wd ws 18:Int)] 107)) (t.alloc (.cells #[.int .i64 (wd ws 16:Int),.int .i64 (wd ws 17:Int),.int .i64 (wd ws 18:Int)] 107)).heap.size A ws):=hid λt h2=>((HR.out.up h2 h2.size).alloc (kqa _) _).more (by simp);rw[h0,Jh] at HC;rw[Jh];unfold phV at HC |-;have hlen2:ws.length<=2048:=Jl.2.1;clear h0 h1 h2 hs h3 h4 Jh b0 Jl;obtain⟨x,hx⟩:=xq (wd ws 16);obtain⟨y,hy⟩:=xq (wd ws 17);obtain⟨z,hz⟩:=xq (wd ws 18);rw[hx] at Jo;rw[hx,hy,hz] at HC R |-;rw[hx,hz] at N;rw[hx,hy,hz] at L;rw[hx] at Ja Eq;rw[hz] at Jc l2;rw[hy] at l1;clear hx hy hz l0;by_cases x4:x=4
  .have e4:((x:Int)==4)=true:=by rw[kqw];omega
   have e4n:(x==4)=true:=by rw[kqw];exact x4
   obtain⟨m,Jg⟩:=xq (mvd ws 128 z);rw[Jg] at Jc N L;cases m
   .have K:=hid (N.out x4 rfl);clear N L Ja Eq x4 Jg;go_enter func101,ntmps101;go_wp2_with fail;refine HC.out.mono ?_;rintro e t ⟨rfl,b⟩;have d:=ax b;have k:=hid (R.out _ d);have H:=Bx.of_new b;have B1:=hid H;have j:=hid d;obtain⟨Z,q1,q2,T,Y,U,I⟩:=H.c3;clear b d H;go_wp2_with fail;have C:=Bx.new t 107 #[.int .i64 (x:Int),.int .i64 (y:Int),.int .i64 (z:Int)];have g:=j.out.alloc j.out.size (.cells #[.int .i64 (x:Int),.int .i64 (y:Int),.int .i64 (z:Int)] 107);have a:=B1.out.alloc (.cells #[.int .i64 (x:Int),.int .i64 (y:Int),.int .i64 (z:Int)] 107);obtain⟨l,D⟩:∃l,t.alloc (.cells #[.int .i64 (x:Int),.int .i64 (y:Int),.int .i64 (z:Int)] 107)=l:=⟨_,rfl⟩;rw[D] at C g a k |-;clear D Z q1 q2 T Y U;have S:=C.lt;have Je:=a.lt;obtain⟨p0,p1,p2,-⟩:=C.c3;have BW:=hid C;have u:=hid g;have F:=hid a;clear C g a;go_quiet (fail);go_wp2_with fail;refine (Jc.out _ (show RdW (l.drewN _) (l.drewN _).heap.size A ws from k.out)).mono ?_;rintro e w2 ⟨rfl,Jb⟩;have o:=(bv (kqk l.heap.size l) _).trans Jb;have BW2:=hid (BW.out.up o BW.out.lt);have V:=hid (F.out.up o F.out.lt);have Jf:=hid (u.out.trans (o.mono u.out.size));have Jj:=hid (k.out.up o o.size);obtain⟨p0,p1,p2,-⟩:=BW2.out.c3
    obtain⟨Z,q1,q2,T,Y,U,I⟩:=V.out.c3;clear Jb o;go_wp2_with fail;exact kqr (v:=.tuple #[.agg #[.int .i64 (x:Int),.int .i64 (y:Int),.int .i64 (z:Int)],.int .i64 50]) (bo results101 _ (((V.out.set_ 0 _).set_ 1 _).set_ 2 _) rfl rfl) rfl ⟨by rw[K.out],((Jf.out.setCell (kqa _) _).setCell (kqa _) _).setCell (kqa _) _⟩
   have K:=hid (L.out x4 rfl);have Q:=hid (λW h=>Ji.out (y:Int) (z:Int) (by omega) (by omega) W h);unfold vT at Q;obtain⟨r,J⟩:∃r,aW ws (y:Int) (z:Int)=r:=⟨_,rfl⟩;obtain⟨q,hq⟩:∃q,ia ws (y:Int) (z:Int)=q:=⟨_,rfl⟩;rw[J,hq] at Q;rw[J] at K;clear N L Ja Eq x4 Jg J hq;go_enter func101,ntmps101;go_wp2_with fail;refine HC.out.mono ?_;rintro e t ⟨rfl,b⟩;have d:=ax b;have k:=hid (R.out _ d);have H:=Bx.of_new b;have B1:=hid H;have j:=hid d;obtain⟨Z,q1,q2,T,Y,U,I⟩:=H.c3;clear b d H;go_wp2_with fail;have C:=Bx.new t 107 #[.int .i64 (x:Int),.int .i64 (y:Int),.int .i64 (z:Int)];have g:=j.out.alloc j.out.size (.cells #[.int .i64 (x:Int),.int .i64 (y:Int),.int .i64 (z:Int)] 107);have a:=B1.out.alloc (.cells #[.int .i64 (x:Int),.int .i64 (y:Int),.int .i64 (z:Int)] 107);obtain⟨l,D⟩:∃l,t.alloc (.cells #[.int .i64 (x:Int),.int .i64 (y:Int),.int .i64 (z:Int)] 107)=l:=⟨_,rfl⟩;rw[D] at C g a k |-;clear D Z q1 q2 T Y U;have S:=C.lt;have Je:=a.lt;obtain⟨p0,p1,p2,-⟩:=C.c3;have BW:=hid C;have u:=hid g;have F:=hid a;clear C g a;go_quiet (fail);go_wp2_with fail;refine (Jc.out _ (show RdW (l.drewN _) (l.drewN _).heap.size A ws from k.out)).mono ?_;rintro e w2 ⟨rfl,Jb⟩
   have o:=(bv (kqk l.heap.size l) _).trans Jb;have BW2:=hid (BW.out.up o BW.out.lt);have V:=hid (F.out.up o F.out.lt);have Jf:=hid (u.out.trans (o.mono u.out.size));have Jj:=hid (k.out.up o o.size);obtain⟨p0,p1,p2,-⟩:=BW2.out.c3;obtain⟨Z,q1,q2,T,Y,U,I⟩:=V.out.c3;clear Jb o;go_wp2_with fail;refine (Q.out _ Jj.out).mono ?_;rintro e w3 ⟨⟨A1,c1,rfl,-,-⟩,B⟩;have i:=(kqk w2.heap.size w2).trans B;have P:=hid (BW2.out.up i BW2.out.lt);have E:=hid (V.out.up i V.out.lt);have M:=hid (Jf.out.trans (i.mono Jf.out.size));obtain⟨p0,p1,p2,-⟩:=P.out.c3;obtain⟨Z,q1,q2,T,Y,U,I⟩:=E.out.c3;clear B i;by_cases O:r=0
   .subst O;go_wp2_with fail;exact kqr (v:=.tuple #[.agg #[.int .i64 (x:Int),.int .i64 (y:Int),.int .i64 (z:Int)],.int .i64 0]) (bo results101 _ (((E.out.set_ 0 _).set_ 1 _).set_ 2 _) rfl rfl) rfl ⟨by rw[K.out],((M.out.setCell (kqa _) _).setCell (kqa _) _).setCell (kqa _) _⟩
   have Jm:(r != 0)=true:=by rw[kqu];exact O
   clear O;go_wp2_with fail;exact kqr (v:=.tuple #[.agg #[.int .i64 (x:Int),.int .i64 (y:Int),.int .i64 (z:Int)],.int .i64 r]) (bo results101 _ (((E.out.set_ 0 _).set_ 1 _).set_ 2 _) rfl rfl) rfl ⟨by rw[K.out],((M.out.setCell (kqa _) _).setCell (kqa _) _).setCell (kqa _) _⟩
  have e4:((x:Int)==4)=false:=by rw[kqj];omega
  have e4n:(x==4)=false:=by rw[kqj];exact x4
  by_cases x3:x=3
  .have e3:((x:Int)==3)=true:=by rw[kqw];omega
   have e3n:(x==3)=true:=by rw[kqw];exact x3
   have K:=hid (Ja.out x3);have Q:=hid (λW h=>Ji.out 128 128 (by omega) (by omega) W h);unfold vT at Q;obtain⟨r,J⟩:=xq (aW ws 128 128);obtain⟨q,hq⟩:=xq (ia ws 128 128);rw[J,hq] at Q;rw[J] at K;clear N L Ja Eq x4 x3 J hq;go_enter func101,ntmps101;go_wp2_with fail;refine HC.out.mono ?_;rintro e t ⟨rfl,b⟩;have d:=ax b;have k:=hid (R.out _ d);have H:=Bx.of_new b;have B1:=hid H;have j:=hid d;obtain⟨Z,q1,q2,T,Y,U,I⟩:=H.c3;clear b d H;go_wp2_with fail;have C:=Bx.new t 107 #[.int .i64 (x:Int),.int .i64 (y:Int),.int .i64 (z:Int)];have g:=j.out.alloc j.out.size (.cells #[.int .i64 (x:Int),.int .i64 (y:Int),.int .i64 (z:Int)] 107);have a:=B1.out.alloc (.cells #[.int .i64 (x:Int),.int .i64 (y:Int),.int .i64 (z:Int)] 107);obtain⟨l,D⟩:∃l,t.alloc (.cells #[.int .i64 (x:Int),.int .i64 (y:Int),.int .i64 (z:Int)] 107)=l:=⟨_,rfl⟩;rw[D] at C g a k |-;clear D Z q1 q2 T Y U;have S:=C.lt;have Je:=a.lt;obtain⟨p0,p1,p2,-⟩:=C.c3;have BW:=hid C;have u:=hid g;have F:=hid a;clear C g a;refine (Q.out _ k.out).mono ?_;rintro e w3 ⟨⟨A1,c1,rfl,-,-⟩,B⟩;have i:=(kqk l.heap.size l).trans B;have P:=hid (BW.out.up i BW.out.lt);have E:=hid (F.out.up i F.out.lt);have M:=hid (u.out.trans (i.mono u.out.size));obtain⟨p0,p1,p2,-⟩:=P.out.c3;obtain⟨Z,q1,q2,T,Y,U,I⟩:=E.out.c3;clear B i;by_cases O:r=0
   .subst O;go_wp2_with fail;exact kqr (v:=.tuple #[.agg #[.int .i64 (x:Int),.int .i64 (y:Int),.int .i64 (z:Int)],.int .i64 0]) (bo results101 _ (((E.out.set_ 0 _).set_ 1 _).set_ 2 _) rfl rfl) rfl ⟨by rw[K.out],((M.out.setCell (kqa _) _).setCell (kqa _) _).setCell (kqa _) _⟩
   have Jm:(r != 0)=true:=by rw[kqu];exact O
   clear O;go_wp2_with fail;exact kqr (v:=.tuple #[.agg #[.int .i64 (x:Int),.int .i64 (y:Int),.int .i64 (z:Int)],.int .i64 r]) (bo results101 _ (((E.out.set_ 0 _).set_ 1 _).set_ 2 _) rfl rfl) rfl ⟨by rw[K.out],((M.out.setCell (kqa _) _).setCell (kqa _) _).setCell (kqa _) _⟩
  have e3:((x:Int)==3)=false:=by rw[kqj];omega
  have e3n:(x==3)=false:=by rw[kqj];exact x3
  have K:=hid (Eq.out (by omega));obtain⟨r,J⟩:=xq (ah ws);rw[J] at Jk K;clear N L Ja Eq x4 x3 J;go_enter func101,ntmps101;go_wp2_with fail;refine HC.out.mono ?_;rintro e t ⟨rfl,b⟩;have d:=ax b;have k:=hid (R.out _ d);have H:=Bx.of_new b;have B1:=hid H;have j:=hid d;obtain⟨Z,q1,q2,T,Y,U,I⟩:=H.c3;clear b d H;go_wp2_with fail;have C:=Bx.new t 107 #[.int .i64 (x:Int),.int .i64 (y:Int),.int .i64 (z:Int)];have g:=j.out.alloc j.out.size (.cells #[.int .i64 (x:Int),.int .i64 (y:Int),.int .i64 (z:Int)] 107);have a:=B1.out.alloc (.cells #[.int .i64 (x:Int),.int .i64 (y:Int),.int .i64 (z:Int)] 107);obtain⟨l,D⟩:∃l,t.alloc (.cells #[.int .i64 (x:Int),.int .i64 (y:Int),.int .i64 (z:Int)] 107)=l:=⟨_,rfl⟩;rw[D] at C g a k |-;clear D Z q1 q2 T Y U;have S:=C.lt;have Je:=a.lt;obtain⟨p0,p1,p2,-⟩:=C.c3;have BW:=hid C;have u:=hid g;have F:=hid a;clear C g a;have G:t.heap.size≠w.heap.size:=by omega
  go_region_held3 (λX:World=>X.cell? ⟨t.heap.size,0,none⟩=some (.int .i64 (x:Int))/\X.cell? ⟨t.heap.size,1,none⟩=some (.int .i64 (y:Int))/\X.cell? ⟨t.heap.size,2,none⟩=some (.int .i64 (z:Int))) (first | exact⟨(((P.out.far G _).far G _).far G _).cell 0,(((P.out.far G _).far G _).far G _).cell 1,(((P.out.far G _).far G _).far G _).cell 2⟩ | go_keep)
   (first | (go_at_call 162;refine (Jk.out _ (show RdW l.drew l.drew.heap.size A ws from k.out)).mono ?_;rintro e w3 ⟨rfl,B⟩;have m0:=(B.cell (p:=⟨t.heap.size,0,none⟩) S).trans p0;have m1:=(B.cell (p:=⟨t.heap.size,1,none⟩) S).trans p1;have m2:=(B.cell (p:=⟨t.heap.size,2,none⟩) S).trans p2;have i:Below l.heap.size l w3:=(kqk l.heap.size l).drew.trans B;have E:=hid (F.out.up i Je);have P:=hid (BW.out.up i S);have M:=hid (u.out.trans (i.mono u.out.size));clear B i;obtain⟨Z,q1,q2,T,Y,U,I⟩:=E.out.c3))
  go_wp2_with fail;exact kqr (v:=.tuple #[.agg #[.int .i64 (x:Int),.int .i64 (y:Int),.int .i64 (z:Int)],.int .i64 r]) (bo results101 _ (((E.out.set_ 0 _).set_ 1 _).set_ 2 _) rfl rfl) rfl ⟨by rw[K.out],((M.out.setCell (kqa _) _).setCell (kqa _) _).setCell (kqa _) _⟩
 have K:=hid (λr h=>CV (ws:=ws) (r:=r) h);rw[lnV_no h0] at HC |-;obtain⟨r,J⟩:=xq (cF ws);rw[J] at HC h0;have K:=hid (K.out r J h0);have Jm:(r != 0)=true:=by rw[kqu];exact h0
 unfold phV at HC |-;simp only[kq9] at HC |-;have R:Hid (∀t:World,Below w.heap.size w t->True):=hid λ_ _=>trivial;clear h0 J b0;go_enter func101,ntmps101;go_wp2_with fail;refine HC.out.mono ?_;rintro e t ⟨rfl,b⟩;have d:=ax b;have k:=hid (R.out _ d);have H:=Bx.of_new b;have B1:=hid H;have j:=hid d;obtain⟨Z,q1,q2,T,Y,U,I⟩:=H.c3;clear b d H;go_wp2_with fail;exact kqr (v:=.tuple #[.agg #[.int .i64 0,.int .i64 0,.int .i64 0],.int .i64 r]) (bo results101 _ ((((B1.out.set_ 0 _).set_ 1 _).set_ 2 _).alloc _) rfl rfl) rfl ⟨by rw[K.out],(((j.out.setCell (kqa _) _).setCell (kqa _) _).setCell (kqa _) _).alloc (by simp;exact j.out.size) _⟩
theorem nv(A:Option Addr)(ws:List Nat)(c n:Nat)(w:World)(hn:ws.length=n)(hm:n<=9223372036854775807)(hc:n<=c)(hr:RdW w w.heap.size A ws)(ho:∀x∈ws,x<18446744073709551616):
 Calls prog 52 #[.slice A n c] w λe w'=>e=.returned (.int .i64 (aw ws))/\Below w.heap.size w w':=by
 have f:=hid (tK A ws c n w hn hm hc hr ho);have d:∃x y z:Nat,lnV ws=phV x y z:=by
  unfold lnV;split
  .exact ⟨_,_,_,rfl⟩
  exact⟨0,0,0,rfl⟩
 obtain⟨x,y,z,d⟩:=d;rw[d] at f;unfold phV at f;obtain⟨r,a⟩:=xq (aw ws);rw[a] at f |-;clear a d hr ho hn;go_enter func52,ntmps52;go_wp2_with fail;refine f.out.mono ?_;rintro e w1 ⟨rfl,b⟩;go_wp2;go_ret;exact⟨rfl,b.alloc b.size _⟩
theorem lfN_no(h:aw ws≠0):lfN ws=0:=by simp[lfN,h]
theorem Hk(h:wd ws 16<3):lfN ws=0:=by simp[lfN,h]
theorem yK(h:aw ws=0)(h2:¬ wd ws 16<3):lfN ws=(eG (aJ ws (gm ws))).length:=by unfold lfN;rw[if_pos h,if_neg h2]
theorem kP(h:aw ws=0):cF ws=0:=by
 unfold aw at h;split at h
 .assumption
 exact h
theorem wJ(hk:k<l.length):(eG (l.take (k+1))).length=(eG (l.take k)).length+(if l[k].mark=true then 1 else 0):=by rw[qX hk,kqs];split<;>rfl
theorem G9(A:Option Addr)(ws:List Nat)(c n:Nat)(w:World)(hn:ws.length=n)(hm:n<=9223372036854775807)(hc:n<=c)(C:RdW w w.heap.size A ws)(ho:∀x∈ws,x<18446744073709551616):
 Calls prog 164 #[.slice A n c] w λe w'=>e=.returned (.tuple #[.int .i64 (lfN ws:Nat),.int .i64 (aw ws)])/\Below w.heap.size w w':=by
 subst hn;have p:=hid (tK A ws c ws.length w rfl hm hc C ho);have HR:=hid C;have HO:=hid ho;clear C ho;by_cases o:aw ws=0
 .obtain ⟨h1,-⟩:=ic (kP o);obtain⟨hs,h3,h4⟩:=fV h1;obtain⟨⟨l0,l1,l2⟩,-⟩:=(bq ws).1 h3;have U:=gJ ws hs;have S:lnV ws=phV (wd ws 16) (wd ws 17) (wd ws 18):=by simp[lnV,kP o]
  have j:=hid (λh=>Hk (ws:=ws) h);have f:=hid (λh=>yK o h);have B:=hid (λW (h:RdW W W.heap.size A ws)=>lR A ws c ws.length (gm ws) W rfl hm h HO.out);unfold pp at B;have O:=iq ws (gm ws);have s:Hid (gm ws=if (wd ws 17:Int)<128 then 128 else (wd ws 17:Int)):=hid rfl;have M:Hid (∀u:World,Below w.heap.size w u->RdW (u.alloc (.cells #[.int .i64 (wd ws 16:Int),.int .i64 (wd ws 17:Int),.int .i64 (wd ws 18:Int)] 107)) (u.alloc (.cells #[.int .i64 (wd ws 16:Int),.int .i64 (wd ws 17:Int),.int .i64 (wd ws 18:Int)] 107)).heap.size A ws):=hid λu h2=>((HR.out.up h2 h2.size).alloc (kqa _) _).more (by simp);rw[o,S] at p;rw[o];unfold phV at p;have hlen2:ws.length<=2048:=U.2.1;clear o h1 hs h3 h4 S U;obtain⟨x,E⟩:=xq (wd ws 16);obtain⟨y,X⟩:=xq (wd ws 17);obtain⟨z,L⟩:=xq (wd ws 18);obtain⟨g,R⟩:=xq (gm ws);obtain⟨l,Z⟩:=xq (aJ ws g);obtain⟨r,C⟩:=xq (bJ ws g);obtain⟨N,hN⟩:=xq (lfN ws);rw[R,Z,C] at B;rw[hN] at j f |-;rw[R,Z] at f;rw[R,Z] at O;rw[R,X] at s;rw[E,X,L] at p M;rw[E] at j f;rw[X] at l1;clear E X L R Z C hN l0 l2;by_cases D:x<3
  .have hd:decide ((x:Int)<3)=true:=by rw[kq0];omega
   have Eq:decide (x<3)=true:=by rw[kq0];exact D
   have T:=hid (j.out D);clear j f D s;go_enter func164,ntmps164;go_wp2_with fail;refine p.out.mono ?_;rintro e u ⟨rfl,a⟩;go_wp2;go_ret2;exact⟨by rw[T.out];rfl,a.alloc a.size _⟩
  have hd:decide ((x:Int)<3)=false:=by rw[kqh];omega
  have Eq:decide (x<3)=false:=by rw[kqh];exact D
  have T:=hid (f.out D);clear j f D;go_enter func164,ntmps164;go_wp2_with fail;refine p.out.mono ?_;rintro e u ⟨rfl,a⟩;have Jb:=hid (M.out _ a);have P:=hid a;clear a;go_wp2_with fail
  all_goals
   have H:Hid (∀q,g=q->∀W:World,RdW W W.heap.size A ws->Calls prog 65 #[.slice A ws.length c,.int .i64 q] W λe w'=>(∃A c,e=Ending.returned (.tuple #[.slice A l.length c,.int .i64 r])/\RdB w' w'.heap.size A l/\l.length<=c)/\Below W.heap.size W w'):=hid (λq hq=>by rw[<-hq];exact B.out);refine (H.out _ (by rw[s.out];first|rw[if_pos (by assumption)] | rw[if_neg (by omega)]) _ Jb.out).mono ?_;rintro e w2 ⟨⟨A1,c1,rfl,G,-⟩,t⟩;rw[kqm] at t;have Q:=hid (P.out.trans ((ax t).mono P.out.size));have Ja:=hid G;have Jc:=Q.out.size;clear G t H;go_wp2_with fail;go_loopw [8,32] (λm i wr=>∃k:Nat,k<=l.length/\i=.int .i64 k/\m=.int .i64 ((eG (l.take k)).length:Nat)/\Below w2.heap.size w2 wr) (λ_ i _=>l.length-(intOf i).toNat)
   case atStart=>exact⟨0,kqy _,rfl,rfl,kqk _ _⟩
   obtain⟨k,hk,rfl,rfl,K⟩:=hrel;have L:=K.size;by_cases I:k<l.length
   .obtain ⟨b,off,rfl,hbw,q0,q1,q2,q3,q4,q5⟩:=RdB.at_ (Ja.out.below K) I;have d:=hid (wJ I);have V:=CH (l.take k);rw[kq3] at V;obtain⟨m,F⟩:=xq ((eG (l.take k)).length);rw[F] at d V |-;obtain⟨x',E⟩:∃x,l[k]=x:=⟨_,rfl⟩;rw[E] at q0 q1 q2 q3 q4 q5 d;obtain⟨xa,xs,xk,xt,xm,xn⟩:=x';dsimp only at q0 q1 q2 q3 q4 q5 d;have hlm:(k:Int)<(l.length:Int):=by omega
    have hmk:(m:Int)<=4611686018427387904:=by omega
    clear E F;cases xm
    .have v:=hid (d.out.trans (kz8 m));clear d;go_wp2;go_roundw
     case rel=>exact⟨k+1,by omega,by go_num,by rw[v.out],K.alloc L _⟩
     case measure=>simp[intOf];omega
    have v:=hid (show (eG (l.take (k+1))).length=m+1 from d.out);clear d;go_wp2;go_roundw
    case rel=>exact⟨k+1,by omega,by go_num,by rw[v.out];go_num,K.alloc L _⟩
    case measure=>simp[intOf];omega
   rw[kq5 (by omega)];rw[<-T.out];go_wp2;go_ret2;exact⟨rfl,Q.out.trans (K.mono Jc)⟩
 have T:=hid (lfN_no o);have Y:∃x y z:Nat,lnV ws=phV x y z:=by
  unfold lnV;split
  .exact ⟨_,_,_,rfl⟩
  exact⟨0,0,0,rfl⟩
 obtain⟨x,y,z,Y⟩:=Y;rw[Y] at p;unfold phV at p;obtain⟨r,J⟩:=xq (aw ws);rw[J] at p o |-;have hrn:(r != 0)=true:=by rw[kqu];exact o
 clear J Y o;go_enter func164,ntmps164;go_wp2_with fail;refine p.out.mono ?_;rintro e u ⟨rfl,a⟩;go_wp2;go_ret2;exact⟨by rw[T.out];rfl,a.alloc a.size _⟩
end Go.Proofs.YtpcajamacpbjcaaGreat
