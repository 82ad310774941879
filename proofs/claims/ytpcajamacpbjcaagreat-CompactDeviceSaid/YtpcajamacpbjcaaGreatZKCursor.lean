/- Texts laid together: PhP Ph Cur1 Mvd Ck Left. -/
import Derived.Test.YtpcajamacpbjcaaGreatZKHead
import Derived.Test.YtpcajamacpbjcaaGreatZKPlain
import Derived.Test.YtpcajamacpbjcaaGreatZKHeap
import Derived.Deep.RegionHeld3
import Derived.Deep.DrawnRows
import Derived.Laws.BitsLemmas
import Derived.Test.YtpcajamacpbjcaaGreatZKMove
set_option maxHeartbeats 16000000
set_option maxRecDepth 100000
set_option linter.all false
namespace Go.Proofs.YtpcajamacpbjcaaGreat
open Lib (hid)
variable {r:Int}{l:List Bk}{ws:List Nat}{f i k t:Nat}
open Go.Proofs.Tryz
def kA (n:Nat):Bool:=decide (128<=n)&&(decide (n<=2048)&&n%2==0)
theorem aL(n:Nat):kA n=true↔128<=n/\n<=2048/\n%2=0:=by simp[kA]
def CV (p f t:Nat):Bool:=if p=4 then kA f&&(kA t&&decide (t<=f)) else if t≠0 then false else if p=3 then f==0||kA f else decide (p<3)&&f==0
theorem co(p f t:Nat):CV p f t=true↔p=4/\kA f=true/\kA t=true/\t<=f\/p=3/\t=0/\(f=0\/kA f=true)\/p<3/\t=0/\f=0:=by
 unfold CV;split
 .rename_i h;subst h;simp
 rename_i h4;split
 .rename_i h;simp[h4,h]
 rename_i h;have a:t=0:=by omega
 subst a;split
 .rename_i h3;subst h3;simp
 rename_i h3;simp[h4,h3]
def jd (ws:List Nat):Bool:=(decide (wd ws 16<=ws.length)&&(decide (wd ws 17<=ws.length)&&decide (wd ws 18<=ws.length)))&&(wd ws 19==0&&(wd ws 20==0&&(wd ws 21==0&&(wd ws 22==0&&wd ws 23==0))))
def cK (ws:List Nat):Int:=if aj (ws.length:Int)=true then (if (jd ws&&CV (wd ws 16) (wd ws 17) (wd ws 18))=true then 0 else 50) else 8
def phV (p f t:Nat):Value:=.agg #[.int .i64 (p:Int),.int .i64 (f:Int),.int .i64 (t:Int)]
def prV (ws:List Nat):Value:=if cK ws=0 then phV (wd ws 16) (wd ws 17) (wd ws 18) else phV 0 0 0
theorem rE(h:aj (ws.length:Int)=false):cK ws=8/\prV ws=phV 0 0 0:=by simp[prV,cK,h]
theorem rF(h:aj (ws.length:Int)=true)(h2:(jd ws&&CV (wd ws 16) (wd ws 17) (wd ws 18))=false):cK ws=50/\prV ws=phV 0 0 0:=by simp[prV,cK,h,h2]
theorem mQ(h:aj (ws.length:Int)=true)(h2:(jd ws&&CV (wd ws 16) (wd ws 17) (wd ws 18))=true):cK ws=0/\prV ws=phV (wd ws 16) (wd ws 17) (wd ws 18):=by simp[prV,cK,h,h2]
theorem f8(h:cK ws=0):aj (ws.length:Int)=true/\jd ws=true/\CV (wd ws 16) (wd ws 17) (wd ws 18)=true:=by
 unfold cK at h;split at h
 .split at h
  .rename_i h1 h2;simp only[kqt] at h2;exact⟨h1,h2⟩
  simp at h
 simp at h
theorem ro(ws:List Nat):cK ws=0\/cK ws=8\/cK ws=50:=by
 unfold cK;split
 .split<;>simp
 simp
theorem bo(ws:List Nat):jd ws=true↔(wd ws 16<=ws.length/\wd ws 17<=ws.length/\wd ws 18<=ws.length)/\wd ws 19=0/\wd ws 20=0/\wd ws 21=0/\wd ws 22=0/\wd ws 23=0:=by simp[jd]
theorem DX(hi:i<8)(h:i<3/\ws.length<wd ws (16+i)\/3<=i/\wd ws (16+i)≠0):jd ws=false:=by
 cases a:jd ws with
 | false=>rfl
 | true =>
  obtain⟨⟨a0,a1,a2⟩,a3,a4,a5,a6,a7⟩:=(bo ws).1 a;exfalso
  match i,hi with
  | 0,_=>simp only[kz8] at h;omega
  | 1,_=>simp only[Nat.reduceAdd] at h;omega
  | 2,_=>simp only[Nat.reduceAdd] at h;omega
  | 3,_=>simp only[Nat.reduceAdd] at h;omega
  | 4,_=>simp only[Nat.reduceAdd] at h;omega
  | 5,_=>simp only[Nat.reduceAdd] at h;omega
  | 6,_=>simp only[Nat.reduceAdd] at h;omega
  | 7,_=>simp only[Nat.reduceAdd] at h;omega
def oG (ws:List Nat) (f:Nat):Bool:=match blocks ws 128 with
 | none=>false
 | some l=>l.any (λb=>b.at_==(f:Int))||f==ws.length
def cP (ws:List Nat):Int:=if cK ws=0 then (if wd ws 16=3/\wd ws 17≠0/\oG ws (wd ws 17)=false then 50 else 0) else cK ws
def lnV (ws:List Nat):Value:=if cP ws=0 then phV (wd ws 16) (wd ws 17) (wd ws 18) else phV 0 0 0
theorem iJ(h:cP ws=0):cK ws=0/\(wd ws 16=3->wd ws 17≠0->oG ws (wd ws 17)=true):=by
 unfold cP at h;split at h
 .rename_i h1;refine⟨h1,λb a=>?_⟩;split at h
  .simp at h
  rename_i h4;cases c:oG ws (wd ws 17) with
  | true=>rfl
  | false=>exact absurd ⟨b,a,c⟩ h4
 rename_i h1;exact absurd h h1
theorem B6(ws:List Nat):cP ws=0\/cP ws=8\/cP ws=50:=by
 unfold cP;split
 .split<;>simp
 exact ro ws
def mdOk (ws:List Nat) (i:Nat):Bool:=aD (wd ws i)&&((aq (wd ws i)).kind==1&&(!(aq (wd ws i)).mark&&cZ ws (aq (wd ws i))))
def uw (ws:List Nat):Nat->Nat->Nat->Bool
 | 0,i,t=>i==t
 | f+1,i,t=>if i<t then mdOk ws i&&uw ws f (i+szAt ws i) t else i==t
theorem l5(h:mdOk ws i=true):2<=szAt ws i/\szAt ws i%2=0/\szAt ws i<=10:=by unfold mdOk aD at h;simp only[kqt,kqw] at h;obtain⟨⟨a,-⟩,h2,-⟩:=h;have h3:=(bD _).1 a;have e:(aq (wd ws i)).size=((szAt ws i:Nat):Int):=rfl;omega
theorem n9 :∀ {f i g:Nat},t-i<=f->t-i<=g->uw ws f i t=uw ws g i t:=by
 intro f
 induction f with
 | zero =>
  intro i g h b;cases g with
  | zero=>rfl
  | succ g=>simp only[uw];rw[if_neg (by omega)]
 | succ f ih =>
  intro i g h b;cases g with
  | zero=>simp only[uw];rw[if_neg (by omega)]
  | succ g =>
   simp only[uw];split
   .cases a:mdOk ws i with
    | false=>simp
    | true =>have:=l5 a;rw[ih (i:=i+szAt ws i) (by omega) (g:=g) (by omega)]
   rfl
def mvd (ws:List Nat) (i t:Nat):Bool:=uw ws t i t
theorem kj(h:t<=i):mvd ws i t=(i==t):=by unfold mvd;rw[n9 (g:=0) (by omega) (by omega)];rfl
theorem k8(h:i<t)(h2:mdOk ws i=true):mvd ws i t=mvd ws (i+szAt ws i) t:=by unfold mvd;have:=l5 h2;rw[n9 (g:=t+1) (by omega) (by omega),uw,if_pos h,h2,kzq]
theorem tq(h:i<t)(h2:mdOk ws i=false):mvd ws i t=false:=by unfold mvd;rw[n9 (g:=t+1) (by omega) (by omega),uw,if_pos h,h2,kxz]
def az (ws:List Nat):Int:=if cP ws=0 then (if wd ws 16=4 then (if mvd ws 128 (wd ws 18)=true then bh ws (wd ws 17:Nat) (wd ws 18:Nat) else 50) else if wd ws 16=3 then bh ws 128 128 else ah ws) else cP ws
def ga (ws:List Nat):Int:=if (wd ws 17:Int)<128 then 128 else (wd ws 17:Int)
def lfN (ws:List Nat):Nat:=if az ws=0 then (if wd ws 16<3 then 0 else (eG (aQ ws (ga ws))).length) else 0
open Go.RowKit
theorem Ff(n:Int):bits .and .i64 n 1=n%2:=by
 have b:(BitVec.ofInt 64 1).toNat=2 ^ 1-1:=by decide
 have a:(BitVec.ofInt 64 n &&& BitVec.ofInt 64 1).toNat=(n%((2 ^ 64:Nat):Int)).toNat%2 ^ 1:=by rw[BitVec.toNat_and,BitVec.toNat_ofInt,b,kxx]
 show IntKind.i64.wrap ((BitVec.ofInt 64 n &&& BitVec.ofInt 64 1).toNat:Nat)=n%2;rw[a,IntKind.wrap_i64];omega
theorem zw(n:Nat)(w:World)(hn:n<=4611686018427387904):Calls prog 217 #[.int .i64 (n:Int)] w λe w'=>e=.returned (.bool (kA n))/\w=w':=by
 have H:Hid (∀b:Bool,(b=true↔128<=n/\n<=2048/\n%2=0)->b=kA n):=hid λb h=>by rw[kzg,aL,h]
 have ha:=Ff (n:Int);go_enter func217,ntmps217;go_wp2_with fail
 all_goals
  go_ret;exact⟨jj (H.out _ (by simp;omega)),rfl⟩
def tL (p f t:Nat):Int:=if CV p f t=true then 0 else 8
theorem FR(p f t:Nat)(w:World)(hp:p<=4611686018427387904)(hf:f<=4611686018427387904)(ht:t<=4611686018427387904):
 Calls prog 163 #[phV p f t] w λe w'=>e=.returned (.int .i64 (tL p f t))/\Below w.heap.size w w':=by
 have i:=hid (λW=>zw f W hf);have j:=hid (λW=>zw t W ht);have b:Hid (∀r:Int,r=(if (if p=4 then kA f&&(kA t&&decide (t<=f)) else if t≠0 then false else if p=3 then f==0||kA f else decide (p<3)&&f==0)=true then 0 else 8)->tL p f t=r):=hid λr h=>by rw[h];rfl
 have y:=(kqk w.heap.size w).alloc (kqa _) (.cells #[.int .i64 (p:Int),.int .i64 (f:Int),.int .i64 (t:Int)] 107);have c:=hid y;unfold phV;clear y;by_cases k:p=4
 .subst k;cases a:kA f
  .rw[a] at i;have d:=hid (b.out 8 (by rw[if_pos rfl,a];rfl));clear b j a;(try simp only[kq9] at c |-);go_enter func163,ntmps163;go_wp2_with fail;refine (i.out _).mono ?_;rintro e n ⟨rfl,rfl⟩;go_wp2;go_ret;exact⟨by rw[d.out];rfl,c.out⟩
  cases g:kA t
  .rw[a] at i;rw[g] at j;have d:=hid (b.out 8 (by rw[if_pos rfl,a,g];rfl));clear b a g;(try simp only[kq9] at c |-);go_enter func163,ntmps163;go_wp2_with fail;refine (i.out _).mono ?_;rintro e n ⟨rfl,rfl⟩;go_wp2_with fail;refine (j.out _).mono ?_;rintro e n ⟨rfl,rfl⟩;go_wp2;go_ret;exact⟨by rw[d.out];rfl,c.out⟩
  rw[a] at i;rw[g] at j;by_cases s:t<=f
  .have x:decide ((t:Int)<=(f:Int))=true:=by rw[kqn];omega
   have l:decide (t<=f)=true:=by rw[kqn];omega
   have d:=hid (b.out 0 (by rw[if_pos rfl,a,g,l];rfl));clear b a g s;(try simp only[kq9] at c |-);go_enter func163,ntmps163;go_wp2_with fail;refine (i.out _).mono ?_;rintro e n ⟨rfl,rfl⟩;go_wp2_with fail;refine (j.out _).mono ?_;rintro e n ⟨rfl,rfl⟩;go_wp2;go_ret;exact⟨by rw[d.out];rfl,c.out⟩
  have x:decide ((t:Int)<=(f:Int))=false:=by rw[kqc];omega
  have l:decide (t<=f)=false:=by rw[kqc];omega
  have d:=hid (b.out 8 (by rw[if_pos rfl,a,g,l];rfl));clear b a g s;(try simp only[kq9] at c |-);go_enter func163,ntmps163;go_wp2_with fail;refine (i.out _).mono ?_;rintro e n ⟨rfl,rfl⟩;go_wp2_with fail;refine (j.out _).mono ?_;rintro e n ⟨rfl,rfl⟩;go_wp2;go_ret;exact⟨by rw[d.out];rfl,c.out⟩
 have e4:((p:Int)==4)=false:=by rw[kqi];omega
 have e4n:(p==4)=false:=by rw[kqi];omega
 by_cases u:t=0
 .subst u;by_cases o:p=3
  .subst o;by_cases m:f=0
   .subst m;have d:=hid (b.out 0 (by simp));clear b i j k;(try simp only[kq9] at c |-);go_enter func163,ntmps163;go_wp2;go_ret;exact⟨by rw[d.out];rfl,c.out⟩
   have z:((f:Int)==0)=false:=by rw[kqi];omega
   have v:(f==0)=false:=by rw[kqi];omega
   cases a:kA f
   .rw[a] at i;have d:=hid (b.out 8 (by simp[a,m]));clear b j a k m;(try simp only[kq9] at c |-);go_enter func163,ntmps163;go_wp2_with fail;refine (i.out _).mono ?_;rintro e n ⟨rfl,rfl⟩;go_wp2;go_ret;exact⟨by rw[d.out];rfl,c.out⟩
   rw[a] at i;have d:=hid (b.out 0 (by simp[a]));clear b j a k m;(try simp only[kq9] at c |-);go_enter func163,ntmps163;go_wp2_with fail;refine (i.out _).mono ?_;rintro e n ⟨rfl,rfl⟩;go_wp2;go_ret;exact⟨by rw[d.out];rfl,c.out⟩
  have e3:((p:Int)==3)=false:=by rw[kqi];omega
  have e3n:(p==3)=false:=by rw[kqi];omega
  have p0:(0:Int)<=(p:Int):=by omega
  by_cases q:p<3
  .have x:decide ((p:Int)<3)=true:=by rw[kqn];omega
   have l:decide (p<3)=true:=by rw[kqn];omega
   by_cases m:f=0
   .subst m;have d:=hid (b.out 0 (by simp[k,o,q]));clear b i j k o q;(try simp only[kq9] at c |-);go_enter func163,ntmps163;go_wp2;go_ret;exact⟨by rw[d.out];rfl,c.out⟩
   have z:((f:Int)==0)=false:=by rw[kqi];omega
   have v:(f==0)=false:=by rw[kqi];omega
   have d:=hid (b.out 8 (by simp[k,o,q,m]));clear b i j k o q m;(try simp only[kq9] at c |-);go_enter func163,ntmps163;go_wp2;go_ret;exact⟨by rw[d.out];rfl,c.out⟩
  have x:decide ((p:Int)<3)=false:=by rw[kqc];omega
  have l:decide (p<3)=false:=by rw[kqc];omega
  have d:=hid (b.out 8 (by simp[k,o,q]));clear b i j k o q;(try simp only[kq9] at c |-);go_enter func163,ntmps163;go_wp2;go_ret;exact⟨by rw[d.out];rfl,c.out⟩
 have et:((t:Int) != 0)=true:=by rw[kqv];omega
 have etn:(t != 0)=true:=by rw[kqv];omega
 have d:=hid (b.out 8 (by rw[if_neg k,if_pos u];rfl));clear b i j k u;(try simp only[kq9] at c |-);go_enter func163,ntmps163;go_wp2;go_ret;exact⟨by rw[d.out];rfl,c.out⟩
def s9 (ws:List Nat) (k:Nat):Array Value:=#[.int .i64 (if 0<k then (wd ws 16:Int) else 0),.int .i64 (if 1<k then (wd ws 17:Int) else 0),.int .i64 (if 2<k then (wd ws 18:Int) else 0)]
theorem Ax(ws:List Nat)(hk:k<3):(s9 ws k).setIfInBounds k (.int .i64 (wd ws (16+k):Int))=s9 ws (k+1):=by
 match k,hk with
 | 0,_=>rfl
 | 1,_=>rfl
 | 2,_=>rfl
theorem yT(ws:List Nat)(hk:3<=k):s9 ws (k+1)=s9 ws k:=by unfold s9;rw[if_pos (by omega),if_pos (by omega),if_pos (by omega),if_pos (by omega),if_pos (by omega),if_pos (by omega)]
theorem yI(ws:List Nat)(hk:k<3):∃u,(s9 ws k)[k]? = some u:=by
 match k,hk with
 | 0,_=>exact⟨_,rfl⟩
 | 1,_=>exact⟨_,rfl⟩
 | 2,_=>exact⟨_,rfl⟩
def okTo (ws:List Nat) (k:Nat):Prop:=∀i,i<k->(i<3->wd ws (16+i)<=ws.length)/\(3<=i->wd ws (16+i)=0)
theorem Ce(ws:List Nat):okTo ws 0:=λi h=>absurd h (by omega)
theorem Cp(h:okTo ws k)(h1:(k<3->wd ws (16+k)<=ws.length)/\(3<=k->wd ws (16+k)=0)):okTo ws (k+1):=λi hi=>by
 rcases kq6 i k with a|a
 .exact h i a
 .have:i=k:=by omega
  subst this;exact h1
theorem Cv(h:okTo ws 8):jd ws=true:=by rw[bo];exact⟨⟨(h 0 (by omega)).1 (by omega),(h 1 (by omega)).1 (by omega),(h 2 (by omega)).1 (by omega)⟩,(h 3 (by omega)).2 (by omega),(h 4 (by omega)).2 (by omega),(h 5 (by omega)).2 (by omega),(h 6 (by omega)).2 (by omega),(h 7 (by omega)).2 (by omega)⟩
theorem xC(h:aj (ws.length:Int)=true)(h2:jd ws=false):cK ws=50/\prV ws=phV 0 0 0:=rF h (by rw[h2,kxz])
theorem D4(h:aj (ws.length:Int)=true)(h2:tL (wd ws 16) (wd ws 17) (wd ws 18)≠0):cK ws=50/\prV ws=phV 0 0 0:=rF h (by
 unfold tL at h2;cases a:CV (wd ws 16) (wd ws 17) (wd ws 18) with
 | false=>rw[kjv]
 | true=>rw[a] at h2;exact absurd rfl h2)
theorem yX(h:aj (ws.length:Int)=true)(h1:jd ws=true)(h2:tL (wd ws 16) (wd ws 17) (wd ws 18)=0):cK ws=0/\prV ws=phV (wd ws 16) (wd ws 17) (wd ws 18):=mQ h (by
 unfold tL at h2;cases a:CV (wd ws 16) (wd ws 17) (wd ws 18) with
 | true=>rw[h1];rfl
 | false=>rw[a] at h2;cases h2)
theorem bB{fn:Func}{p q:Tmp}(h:fn.results=#[.cell p 107,.tmp q])(tmps:Array Value){W:World}{g:Nat}{t:TypeId}{v0 v1 v2 u:Value}(hb:Bx W g t #[v0,v1,v2])(hp:tmps.getD p undef=.pointer (some ⟨g,0,none⟩))(hq:tmps.getD q undef=u):
 (results fn tmps).run prog W=.ok (.tuple #[.agg #[v0,v1,v2],u]) W:=by obtain⟨a,c,b,-⟩:=hb.c3;rw[kxp] at hp hq;simp[results,h,hp,hq,go_sem,a,c,b]
theorem GS(A:Option Addr)(ws:List Nat)(c n:Nat)(w:World)(hn:ws.length=n)(hm:n<=9223372036854775807)(hc:n<=c)(V:RdW w w.heap.size A ws)(ho:∀x∈ws,x<18446744073709551616):
 Calls prog 102 #[.slice A n c] w λe w'=>e=.returned (.tuple #[prV ws,.int .i64 (cK ws)])/\Below w.heap.size w w':=by
 subst hn;have HR:=hid V;have HO:=hid ho;clear V ho;have f:=Bx.new w 107 #[.int .i64 0,.int .i64 0,.int .i64 0];cases K:aj (ws.length:Int)
 .have HI:=hid (bI K);have l:=hid (rE K);have L:=hid f;clear K f;go_enter func102,ntmps102;go_wp2_with fail;refine (aG A ws.length c _ hm).mono ?_;rintro e w1 ⟨rfl,rfl⟩;rw[HI.out];go_wp2_with fail;refine kqo (v:=.tuple #[.agg #[.int .i64 0,.int .i64 0,.int .i64 0],.int .i64 8]) (bB results102 _ L.out rfl rfl) rfl ⟨by rw[l.out.1,l.out.2];rfl,(kqk _ _).alloc (kqa _) _⟩
 have HI:=hid (aZ K);obtain⟨hb1,s,-⟩:=gX ws K;have HS:=hid K;have L:=hid f;obtain⟨b,off,rfl,hb,-⟩:=RdW.at_ HR.out (show 0<ws.length by omega);have HC:Hid (∀k (h:k<8) (W:World),Below w.heap.size w W->W.cell? ⟨b,off+16+k,none⟩=some (.int .u64 (wd ws (16+k):Int))):=hid λk h W C=>by
  obtain⟨b',off',e',-,X⟩:=RdW.at_ (Rd.below HR.out C) (show 16+k<ws.length by omega);cases e';rw[<-cA,<-kj7] at X;exact X
 have Kd:Hid (∀k,wd ws k<18446744073709551616):=hid (fM HO.out);have hc24:(24:Int)<=(c:Int):=by omega
 have hc16:((c:Int)==16)=false:=by rw[kqi];omega
 have hc16n:(c==16)=false:=by rw[kqi];omega
 have hne:¬ c=16:=by omega
 clear K f;go_enter func102,ntmps102;go_wp2_with fail;refine (aG _ ws.length c _ hm).mono ?_;rintro e w1 ⟨rfl,rfl⟩;rw[HI.out];go_wp2_with fail;go_loopw [20] (λi wr=>∃k:Nat,k<=8/\i=.int .i64 k/\Hid (okTo ws k)/\Bx wr w.heap.size 107 #[.int .i64 0,.int .i64 0,.int .i64 0]/\Bx wr (w.heap.size+1) 226 (s9 ws k)/\Below w.heap.size w wr) (λi _=>8-(intOf i).toNat)
 case atStart =>
  have x1:=Bx.new (w.alloc (.cells #[.int .i64 0,.int .i64 0,.int .i64 0] 107)) 226 #[.int .i64 0,.int .i64 0,.int .i64 0];rw[kqm] at x1;exact⟨0,kqy _,rfl,Ce ws,L.out.alloc _,x1,((kqk _ _).alloc (kqa _) _).alloc (by simp) _⟩
 obtain⟨k,hk,rfl,O,f,q,C⟩:=hrel;have hz:=C.size;by_cases N:k<8
 .have X:=HC.out k N _ C;have Ka:=Kd.out (16+k);have j:=hid (λh=>Cp O.out h);have g:=hid (λh=>xC HS.out (DX N h));have a:=hid (λh=>Ax ws (k:=k) h);have p:=hid (λh=>yT ws (k:=k) h);have m:=hid (λh=>yI ws (k:=k) h);obtain⟨x,M⟩:=xq (wd ws (16+k));rw[M] at X Ka j g a;have hk1:(k:Int)<8:=by omega
  have hk0:(0:Int)<=(k:Int):=by omega
  have hx1:(0:Int)<=(x:Int):=by omega
  clear M;by_cases G:k<3
  .have Eq:decide ((k:Int)<3)=true:=by rw[kqn];omega
   have U:decide (k<3)=true:=by rw[kqn];omega
   obtain⟨u,hu⟩:=m.out G;by_cases F:x<=ws.length
   .have Kc:decide ((x:Int)<=(ws.length:Int))=true:=by rw[kqn];omega
    have Q:decide (x<=ws.length)=true:=by rw[kqn];omega
    have HY:=hid (j.out ⟨λ_=>F,λh=>absurd h (by omega)⟩);have HZ:=hid (a.out G);have Y:=(q.cell k).trans hu;have Z:=q.frozen k;have t:=hid f;have B1:=hid q;have hxw:IntKind.i64.wrap (x:Int)=(x:Int):=kqs _ (by omega);clear j g a p m f q hu F;go_wp2;go_roundw
    case rel=>exact⟨k+1,by omega,by go_num,HY.out,t.out.far (by simp) _,by rw[<-HZ.out];exact B1.out.set_ k _,C.setCell (by simp) _⟩
    case measure=>simp[intOf];omega
   have Kc:decide ((x:Int)<=(ws.length:Int))=false:=by rw[kqc];omega
   have Q:decide (x<=ws.length)=false:=by rw[kqc];exact F
   have l:=hid (g.out (.inl ⟨G,by omega⟩));have t:=hid f;obtain⟨c0,Y,c2,f0,Z,f2,H⟩:=f.c3;clear j g a p m f q hu F;go_wp2_with fail;refine kqo (v:=.tuple #[.agg #[.int .i64 0,.int .i64 0,.int .i64 0],.int .i64 50]) (bB results102 _ (((t.out.set_ 0 _).set_ 1 _).set_ 2 _) rfl rfl) rfl ⟨by rw[l.out.1,l.out.2];rfl,((C.setCell (by simp) _).setCell (by simp) _).setCell (by simp) _⟩
  have Eq:decide ((k:Int)<3)=false:=by rw[kqc];omega
  have U:decide (k<3)=false:=by rw[kqc];omega
  by_cases d:x=0
  .have Kb:((x:Int) != 0)=false:=by rw[kqr];omega
   have R:(x != 0)=false:=by rw[kqr];exact d
   have HY:=hid (j.out ⟨λh=>absurd h G,λ_=>d⟩);have HZ:=hid (p.out (by omega));have t:=hid f;have B1:=hid q;clear j g a p m f q d;go_wp2;go_roundw
   case rel=>exact⟨k+1,by omega,by go_num,HY.out,t.out,by rw[HZ.out];exact B1.out,C⟩
   case measure=>simp[intOf];omega
  have Kb:((x:Int) != 0)=true:=by rw[kqv];omega
  have R:(x != 0)=true:=by rw[kqv];exact d
  have l:=hid (g.out (.inr ⟨by omega,d⟩));have t:=hid f;obtain⟨c0,Y,c2,f0,Z,f2,H⟩:=f.c3;clear j g a p m f q d;go_wp2_with fail;refine kqo (v:=.tuple #[.agg #[.int .i64 0,.int .i64 0,.int .i64 0],.int .i64 50]) (bB results102 _ (((t.out.set_ 0 _).set_ 1 _).set_ 2 _) rfl rfl) rfl ⟨by rw[l.out.1,l.out.2];rfl,((C.setCell (by simp) _).setCell (by simp) _).setCell (by simp) _⟩
 obtain rfl:k=8:=by omega
 have P:=hid (Cv O.out);obtain⟨⟨l0,l1,l2⟩,-⟩:=(bo ws).1 P.out;have B:=hid (λW=>FR (wd ws 16) (wd ws 17) (wd ws 18) W (by omega) (by omega) (by omega));have J:=hid (λh=>D4 HS.out h);have E:=hid (λh=>yX HS.out P.out h);have S:Bx wr (w.heap.size+1) 226 #[.int .i64 (wd ws 16:Int),.int .i64 (wd ws 17:Int),.int .i64 (wd ws 18:Int)]:=q;obtain⟨c0,Y,c2,-⟩:=S.c3;obtain⟨q0,q1,q2,f0,Z,f2,H⟩:=f.c3;unfold phV at B E;obtain⟨x,M⟩:=xq (wd ws 16);obtain⟨y,hy⟩:=xq (wd ws 17);obtain⟨z,I⟩:=xq (wd ws 18);rw[M,hy,I] at B J E;rw[M] at c0;rw[hy] at Y;rw[I] at c2;have t:=hid f;have HB:=hid C;clear f q S l0 l1 l2 M hy I;obtain⟨r,V⟩:=xq (tL x y z);rw[V] at B J E;clear V;go_wp2_with fail;refine (B.out _).mono ?_;rintro e w2 ⟨rfl,D⟩;rw[kqm] at D;have s:=aw D;have b3:=hid (t.out.up s H);have n3:=Bx.of_new D;obtain⟨q0,q1,q2,f0,Z,f2,hgl2⟩:=b3.out.c3;obtain⟨n0,n1,n2,-⟩:=n3.c3;have T:=hid (HB.out.trans (s.mono HB.out.size));clear D s n3;by_cases o:r=0
 .have l:=hid (E.out o);subst o;go_wp2_with fail;refine kqo (v:=.tuple #[.agg #[.int .i64 (x:Int),.int .i64 (y:Int),.int .i64 (z:Int)],.int .i64 0]) (bB results102 _ (((b3.out.set_ 0 _).set_ 1 _).set_ 2 _) rfl rfl) rfl ⟨by rw[l.out.1,l.out.2],((T.out.setCell (by simp) _).setCell (by simp) _).setCell (by simp) _⟩
 have l:=hid (J.out o);have hrn:(r != 0)=true:=by rw[kqv];exact o
 clear o;go_wp2_with fail;refine kqo (v:=.tuple #[.agg #[.int .i64 0,.int .i64 0,.int .i64 0],.int .i64 50]) (bB results102 _ (((b3.out.set_ 0 _).set_ 1 _).set_ 2 _) rfl rfl) rfl ⟨by rw[l.out.1,l.out.2];rfl,((T.out.setCell (by simp) _).setCell (by simp) _).setCell (by simp) _⟩
def noAt (l:List Bk) (f:Nat) (k:Nat):Prop:=∀j,j<k->(gk l j).at_≠(f:Int)
theorem Cl(l:List Bk)(f:Nat):noAt l f 0:=λj h=>absurd h (by omega)
theorem zp(h:noAt l f k)(h2:(gk l k).at_≠(f:Int)):noAt l f (k+1):=λj hj=>by
 rcases kq6 j k with a|a
 .exact h j a
 .have:j=k:=by omega
  subst this;exact h2
theorem bd_no(hs:aj (ws.length:Int)=true)(h:cc ws 128≠0)(f:Nat):oG ws f=false:=by
 unfold oG;cases a:blocks ws 128 with
 | none=>rfl
 | some l=>exact absurd (cO hs (ii hs) a).1 h
theorem bd_at(hb:blocks ws 128=some l)(hk:k<l.length)(h:(gk l k).at_=(f:Int)):oG ws f=true:=by unfold oG;rw[hb];simp only[kxy,kx3];refine .inl ⟨l[k],kqq hk,?_⟩;rw[bP l k hk] at h;rw[kqw];exact h
theorem bd_end(hb:blocks ws 128=some l)(h:noAt l f l.length):oG ws f=(f==ws.length):=by
 unfold oG;rw[hb];have:l.any (λb=>b.at_==(f:Int))=false:=by rw[kj5];intro b c;obtain⟨k,a,rfl⟩:=kqz c;have:=h k a;rw[bP l k a] at this;rw[kqw];exact this
 show (l.any (λb=>b.at_==(f:Int))||f==ws.length)=_;rw[this,kk4]
theorem wo(A:Option Addr)(ws:List Nat)(c n f:Nat)(w:World)(hn:ws.length=n)(hs:aj (n:Int)=true)(hr:RdW w w.heap.size A ws)(ho:∀x∈ws,x<18446744073709551616):
 Calls prog 103 #[.slice A n c,.int .i64 (f:Int)] w λe w'=>e=.returned (.bool (oG ws f))/\Below w.heap.size w w':=by
 subst hn;have D:=gX ws hs;have z:=hid (mf A ws c ws.length 128 w rfl (by omega) hr ho);unfold qW at z;have m:=hid (λh=>bd_no hs h f);have g:Hid (cc ws 128=0->blocks ws 128=some (aQ ws 128)):=hid λh=>(Cy h).2;have t:=ix ws 128;obtain⟨r,p⟩:=xq (cc ws 128);obtain⟨l,F⟩:=xq (aQ ws 128);rw[p,F] at z g;rw[F] at t;rw[p] at m;clear p F hr ho hs D;by_cases j:r=0
 .subst j;have I:=hid (λk (h:k<l.length) X=>bd_at (g.out rfl) h X (f:=f));have G:=hid (λh=>bd_end (g.out rfl) (f:=f) h);clear m g;go_enter func103,ntmps103;go_wp2_with fail;refine z.out.mono ?_;rintro e E ⟨⟨U,W,rfl,s,-⟩,d⟩;have u:=d.size;have H:=hid s;clear s;go_wp2_with fail;go_loopw [18] (λi wr=>∃k:Nat,k<=l.length/\i=.int .i64 k/\Hid (noAt l f k)/\Below E.heap.size E wr) (λi _=>l.length-(intOf i).toNat)
  case atStart=>exact⟨0,kqy _,rfl,Cl l f,kqk _ _⟩
  obtain⟨k,hk,rfl,M,v⟩:=hrel;have T:=v.size;by_cases q:k<l.length
  .obtain ⟨b,off,rfl,hbw,Q,O,S,R,L,N⟩:=RdB.at_ (H.out.below v) q;have C:=hid (λh=>zp M.out h);have B:=hid (λh=>I.out k q h);rw[bP l k q] at C B;obtain⟨x,P⟩:=xq (l[k]);rw[P] at Q O S R L N C B;obtain⟨K,xs,xk,xt,xm,xn⟩:=x;dsimp only at Q O S R L N C B;have hlm:(k:Int)<(l.length:Int):=by omega
   clear P;by_cases a:K=(f:Int)
   .have V:(K==(f:Int))=true:=by rw[kqw];exact a
    have o:=hid (B.out a);clear a;go_wp2;go_ret;exact⟨by rw[o.out];rfl,d.trans ((v.alloc T _).mono u)⟩
   have V:(K==(f:Int))=false:=by rw[kqi];exact a
   have o:=hid (C.out a);clear a;go_wp2;go_roundw
   case rel=>exact⟨k+1,by omega,by go_num,o.out,v.alloc T _⟩
   case measure=>simp[intOf];omega
  have o:=hid (G.out (by have:=M.out;rwa [show k=l.length by omega] at this));have y:((f:Int)==(ws.length:Int))=(f==ws.length):=by rw[kzg,kqw,kqw];omega
  have J:=hid y;clear y;go_wp2;go_ret;exact⟨by rw[o.out,<-J.out];rfl,d.trans (v.mono u)⟩
 have hn1:(r != 0)=true:=by rw[kqv];exact j
 have o:=hid (m.out j);clear j m g;go_enter func103,ntmps103;go_wp2_with fail;refine z.out.mono ?_;rintro e E ⟨⟨U,W,rfl,-,-⟩,d⟩;go_wp2;go_ret;exact⟨by rw[o.out];rfl,d⟩
theorem vU(h:cK ws=r)(h0:r≠0):cP ws=r/\lnV ws=phV 0 0 0:=by subst h;simp[cP,lnV,h0]
theorem Fz(h:cK ws=0)(h1:wd ws 16=3)(h2:wd ws 17≠0)(h3:oG ws (wd ws 17)=false):cP ws=50/\lnV ws=phV 0 0 0:=by simp[cP,lnV,h,h1,h2,h3]
theorem Fp(h:cK ws=0)(h3:wd ws 16=3->wd ws 17≠0->oG ws (wd ws 17)=true):cP ws=0/\lnV ws=phV (wd ws 16) (wd ws 17) (wd ws 18):=by
 have:cP ws=0:=by unfold cP;rw[if_pos h,if_neg];rintro ⟨a,b,c⟩;rw[h3 a b] at c;cases c
 simp[lnV,this]
theorem uZ(A:Option Addr)(ws:List Nat)(c n:Nat)(w:World)(hn:ws.length=n)(hm:n<=9223372036854775807)(hc:n<=c)(D:RdW w w.heap.size A ws)(ho:∀x∈ws,x<18446744073709551616):
 Calls prog 55 #[.slice A n c] w λe w'=>e=.returned (.tuple #[lnV ws,.int .i64 (cP ws)])/\Below w.heap.size w w':=by
 subst hn;have HR:=hid D;have HO:=hid ho;clear D ho;have b0:=Bx.new w 107 #[.int .i64 0,.int .i64 0,.int .i64 0];cases P:aj (ws.length:Int)
 .have H:=hid (bI P);have k:=hid (vU (rE P).1 (by omega));have l:=hid b0;clear P b0;go_enter func55,ntmps55;go_wp2_with fail;refine (aG A ws.length c _ hm).mono ?_;rintro e m ⟨rfl,rfl⟩;rw[H.out];go_wp2_with fail;refine kqo (v:=.tuple #[.agg #[.int .i64 0,.int .i64 0,.int .i64 0],.int .i64 8]) (bB results55 _ l.out rfl rfl) rfl ⟨by rw[k.out.1,k.out.2];rfl,(kqk _ _).alloc (kqa _) _⟩
 have H:=hid (aZ P);have HS:=hid P;have t:=hid (GS A ws c ws.length (w.alloc (.cells #[.int .i64 0,.int .i64 0,.int .i64 0] 107)) rfl hm hc ((HR.out.alloc (kqa _) _).more (by simp)) HO.out);rw[kqm] at t;have F:Hid (∀r,cK ws=r->r≠0->cP ws=r/\lnV ws=phV 0 0 0):=hid λr h h0=>vU h h0;have E:=ro ws;clear P b0;by_cases i:cK ws=0
 .have p:=hid (λZ V h3=>Fz i Z V h3);have f:=hid (λZ=>Fp i Z);obtain⟨g1,g2⟩:=mQ HS.out (by have:=(f8 i).2;rw[this.1,this.2];rfl);rw[g1,g2] at t;have B:=hid (λW (h:RdW W W.heap.size A ws)=>wo A ws c ws.length (wd ws 17) W rfl HS.out h HO.out);unfold phV at t f;obtain⟨x,Y⟩:=xq (wd ws 16);obtain⟨y,X⟩:=xq (wd ws 17);obtain⟨z,hz⟩:=xq (wd ws 18);obtain⟨bd,R⟩:=xq (oG ws y);rw[Y,X,hz] at t f;rw[Y,X] at p;rw[X] at B;rw[R] at B p f;clear i g1 g2 Y X hz R F E;have T:∀(m:World),Below (w.heap.size+1) (w.alloc (.cells #[.int .i64 0,.int .i64 0,.int .i64 0] 107)) m->RdW (m.alloc (.cells #[.int .i64 (x:Int),.int .i64 (y:Int),.int .i64 (z:Int)] 107)) (m.alloc (.cells #[.int .i64 (x:Int),.int .i64 (y:Int),.int .i64 (z:Int)] 107)).heap.size A ws:=λm h=>by
   have V:=aw h;exact ((HR.out.up V V.size).alloc (kqa _) _).more (by simp)
  have l:=hid T;clear T;by_cases C:x=3
  .have e1:((x:Int)==3)=true:=by rw[kqw];omega
   have e1n:(x==3)=true:=by rw[kqw];exact C
   by_cases I:y=0
   .have e2:((y:Int) != 0)=false:=by rw[kqr];omega
    have e2n:(y != 0)=false:=by rw[kqr];exact I
    have k:=hid (f.out (λ_ h=>absurd I h));clear p f C I;go_enter func55,ntmps55;go_wp2_with fail;refine (aG A ws.length c _ hm).mono ?_;rintro e m ⟨rfl,rfl⟩;rw[H.out];go_wp2_with fail;refine t.out.mono ?_;rintro e m ⟨rfl,a⟩;have q:=hid (l.out _ a);have g:=Bx.of_new a;have d:=aw a;have u:=hid g;have b:=hid d;obtain⟨L,J,O,M,N,K,s⟩:=g.c3;clear a d g;go_wp2_with fail;exact kqo (v:=.tuple #[.agg #[.int .i64 (x:Int),.int .i64 (y:Int),.int .i64 (z:Int)],.int .i64 0]) (bB results55 _ ((((u.out.set_ 0 _).set_ 1 _).set_ 2 _).alloc _) rfl rfl) rfl ⟨by rw[k.out.1,k.out.2],(((b.out.setCell (kqa _) _).setCell (kqa _) _).setCell (kqa _) _).alloc (by simp;exact b.out.size) _⟩
   have e2:((y:Int) != 0)=true:=by rw[kqv];omega
   have e2n:(y != 0)=true:=by rw[kqv];exact I
   cases bd
   .have k:=hid (p.out C I rfl);clear p f C I;go_enter func55,ntmps55;go_wp2_with fail;refine (aG A ws.length c _ hm).mono ?_;rintro e m ⟨rfl,rfl⟩;rw[H.out];go_wp2_with fail;refine t.out.mono ?_;rintro e m ⟨rfl,a⟩;have q:=hid (l.out _ a);have g:=Bx.of_new a;have d:=aw a;have u:=hid g;have b:=hid d;obtain⟨L,J,O,M,N,K,s⟩:=g.c3;clear a d g;go_wp2_with fail;refine (B.out _ q.out).mono ?_;rintro e w2 ⟨rfl,j⟩;rw[kqm] at j;have U:=Bx.of_new j;have o:=aw j;have S:=hid (u.out.up o s);have G:=hid (b.out.trans (o.mono b.out.size));obtain⟨L,J,O,M,N,K,Q⟩:=S.out.c3;obtain⟨n0,n1,n2',-⟩:=U.c3;clear j o U;go_wp2_with fail;exact kqo (v:=.tuple #[.agg #[.int .i64 0,.int .i64 0,.int .i64 0],.int .i64 50]) (bB results55 _ (((S.out.set_ 0 _).set_ 1 _).set_ 2 _) rfl rfl) rfl ⟨by rw[k.out.1,k.out.2];rfl,((G.out.setCell (kqa _) _).setCell (kqa _) _).setCell (kqa _) _⟩
   have k:=hid (f.out (λ_ _=>rfl));clear p f C I;go_enter func55,ntmps55;go_wp2_with fail;refine (aG A ws.length c _ hm).mono ?_;rintro e m ⟨rfl,rfl⟩;rw[H.out];go_wp2_with fail;refine t.out.mono ?_;rintro e m ⟨rfl,a⟩;have q:=hid (l.out _ a);have g:=Bx.of_new a;have d:=aw a;have u:=hid g;have b:=hid d;obtain⟨L,J,O,M,N,K,s⟩:=g.c3;clear a d g;go_wp2_with fail;refine (B.out _ q.out).mono ?_;rintro e w2 ⟨rfl,j⟩;rw[kqm] at j;have U:=Bx.of_new j;have o:=aw j;have S:=hid (u.out.up o s);have G:=hid (b.out.trans (o.mono b.out.size));obtain⟨L,J,O,M,N,K,Q⟩:=S.out.c3;obtain⟨n0,n1,n2',-⟩:=U.c3;clear j o U;go_wp2_with fail;exact kqo (v:=.tuple #[.agg #[.int .i64 (x:Int),.int .i64 (y:Int),.int .i64 (z:Int)],.int .i64 0]) (bB results55 _ (((S.out.set_ 0 _).set_ 1 _).set_ 2 _) rfl rfl) rfl ⟨by rw[k.out.1,k.out.2],((G.out.setCell (kqa _) _).setCell (kqa _) _).setCell (kqa _) _⟩
  have e1:((x:Int)==3)=false:=by rw[kqi];omega
  have e1n:(x==3)=false:=by rw[kqi];exact C
  have k:=hid (f.out (λh=>absurd h C));clear p f C;go_enter func55,ntmps55;go_wp2_with fail;refine (aG A ws.length c _ hm).mono ?_;rintro e m ⟨rfl,rfl⟩;rw[H.out];go_wp2_with fail;refine t.out.mono ?_;rintro e m ⟨rfl,a⟩;have q:=hid (l.out _ a);have g:=Bx.of_new a;have d:=aw a;have u:=hid g;have b:=hid d;obtain⟨L,J,O,M,N,K,s⟩:=g.c3;clear a d g;go_wp2_with fail;exact kqo (v:=.tuple #[.agg #[.int .i64 (x:Int),.int .i64 (y:Int),.int .i64 (z:Int)],.int .i64 0]) (bB results55 _ ((((u.out.set_ 0 _).set_ 1 _).set_ 2 _).alloc _) rfl rfl) rfl ⟨by rw[k.out.1,k.out.2],(((b.out.setCell (kqa _) _).setCell (kqa _) _).setCell (kqa _) _).alloc (by simp;exact b.out.size) _⟩
 obtain⟨r,D⟩:=xq (cK ws);have k:=hid (F.out r D (by rw[<-D];exact i));have hv:prV ws=phV 0 0 0:=by simp[prV,i]
 rw[D,hv] at t;rw[D] at i E;have hn1:(r != 0)=true:=by rw[kqv];exact i
 unfold phV at t;have l:Hid (∀m:World,Below (w.heap.size+1) (w.alloc (.cells #[.int .i64 0,.int .i64 0,.int .i64 0] 107)) m->True):=hid λ_ _=>trivial;clear i D F hv;go_enter func55,ntmps55;go_wp2_with fail;refine (aG A ws.length c _ hm).mono ?_;rintro e m ⟨rfl,rfl⟩;rw[H.out];go_wp2_with fail;refine t.out.mono ?_;rintro e m ⟨rfl,a⟩;have q:=hid (l.out _ a);have g:=Bx.of_new a;have d:=aw a;have u:=hid g;have b:=hid d;obtain⟨L,J,O,M,N,K,s⟩:=g.c3;clear a d g;go_wp2_with fail;exact kqo (v:=.tuple #[.agg #[.int .i64 0,.int .i64 0,.int .i64 0],.int .i64 r]) (bB results55 _ ((((u.out.set_ 0 _).set_ 1 _).set_ 2 _).alloc _) rfl rfl) rfl ⟨by rw[k.out.1,k.out.2];rfl,(((b.out.setCell (kqa _) _).setCell (kqa _) _).setCell (kqa _) _).alloc (by simp;exact b.out.size) _⟩
theorem Iq(h:aD (wd ws i)=false):mdOk ws i=false:=by unfold mdOk;rw[h,kxz]
theorem EU(h:aD (wd ws i)=true):mdOk ws i=((aq (wd ws i)).kind==1&&(!(aq (wd ws i)).mark&&cZ ws (aq (wd ws i)))):=by unfold mdOk;rw[h,kzq]
theorem IV{x:Nat}(h:aD x=true)(hk:(aq x).kind=1):(aq x).typ<8:=by unfold aD at h;simp only[kqt] at h;have:=(bD _).1 h.1;omega
theorem Jo(A:Option Addr)(ws:List Nat)(c n t:Nat)(w:World)(hn:ws.length=n)(hm:n<=1000000)(h2:256<=n)(ht:t<=n)(hr:RdW w w.heap.size A ws)(ho:∀x∈ws,x<18446744073709551616):
 Calls prog 160 #[.slice A n c,.int .i64 (t:Int)] w λe w'=>e=.returned (.bool (mvd ws 128 t))/\Below w.heap.size w w':=by
 subst hn;have HR:=hid hr;have Kb:Hid (∀k,wd ws k<18446744073709551616):=hid (fM ho);obtain⟨b,F,rfl,hb,-⟩:=RdW.at_ hr (show 0<ws.length by omega);have Eq:Hid (∀k (h:k<ws.length) (W:World),Below w.heap.size w W->W.cell? ⟨b,F+k,none⟩=some (.int .u64 (wd ws k:Int))):=hid λk h W O=>by
  obtain⟨b',off',e',-,h0⟩:=RdW.at_ (Rd.below HR.out O) h;cases e';rw[<-cA] at h0;exact h0
 have Kx:=hid (λxa xs E (t:Nat) xm xn=>uF ws xa xs E t xm xn);clear hr ho;obtain⟨V,hV⟩:=xq (mvd ws 128 t);have HV:=hid hV;rw[hV];clear hV;go_enter func160,ntmps160;go_wp2_with fail;go_loopw [5] (λa wr=>∃i:Nat,128<=i/\i<=1000020/\a=.int .i64 i/\Hid (V=mvd ws i t)/\Below w.heap.size w wr) (λa _=>t-(intOf a).toNat)
 case atStart=>exact⟨128,by omega,by omega,rfl,hid HV.out.symm,kqk _ _⟩
 obtain⟨i,hi,hi2,rfl,Z,O⟩:=hrel;have hz:=O.size;by_cases K:i<t
 .have o:=hid (λh=>tq (ws:=ws) (t:=t) K h);have Q:=hid (λh=>k8 (ws:=ws) (t:=t) K h);have N:=hid (λh=>Iq (ws:=ws) (i:=i) h);have S:=hid (λh=>EU (ws:=ws) (i:=i) h);have M:=hid (λh hk=>IV (x:=wd ws i) h hk);have g:=hid (λW=>nB (wd ws i) W (Kb.out i));have p0:=Eq.out i (by omega) _ O;have hit:(i:Int)<(t:Int):=by omega
  have hi0:(0:Int)<=(i:Int):=by omega
  have hin:(i:Int)<(ws.length:Int):=by omega
  have D:Hid (szAt ws i=(aq (wd ws i)).size.toNat):=hid rfl;have J:Hid (0<=(aq (wd ws i)).size/\(aq (wd ws i)).size<=65535/\0<=(aq (wd ws i)).typ):=hid (by
   have h1:wd ws i/65536%65536<65536:=kzz _ (by omega);unfold aq;dsimp only;omega)
  have Ky:=hid (λh=>l5 (ws:=ws) (i:=i) h);obtain⟨x,hx⟩:=xq (wd ws i);rw[hx] at p0 N S M g D J;clear hx;cases I:aD x
  .rw[(ml I).1,(ml I).2] at g;unfold mA Bk.val at g;dsimp only at g;have C:=hid (Z.out.trans (o.out (N.out I)));clear I o Q N S M;go_wp2_with fail;refine (g.out _).mono ?_;rintro e v ⟨rfl,l⟩;have f:=O.trans (l.mono hz);go_wp2;go_ret;exact⟨by rw[C.out];rfl,f.alloc f.size _⟩
  have HSO:=hid I;rw[(l7 I).1,(l7 I).2] at g;have d:=hid (S.out I);have s:=hid (λhk=>M.out I hk);clear I N S M;obtain⟨y,hy⟩:=xq (aq x);have Kl:y.at_=0/\y.next=0:=by rw[<-hy];exact⟨rfl,rfl⟩
  rw[hy] at g d s D J;clear hy;obtain⟨xa,xs,E,xt,xm,xn⟩:=y;dsimp only at Kl d s D J;obtain⟨rfl,rfl⟩:=Kl;unfold Bk.val at g;dsimp only at g;by_cases q:E=1
  .have ek:(E != 1)=false:=by rw[kqr];exact q
   have ek2:(E==1)=true:=by rw[kqw];exact q
   have ht8:=s.out q;obtain⟨r1,r2,r3⟩:=J.out;obtain⟨u,rfl⟩:=kq2 r3;obtain⟨sz,rfl⟩:=kq2 r1;rw[kqj] at D;rw[ek2,kzq] at d;clear q s r1 r3;cases xm
   .rw[kvb,kzq,Kx.out] at d;have Kt:=Kb.out (96+2*u);have Ki:=Kb.out (96+2*u+1);have HC:=hid (λW=>re (wd ws (96+2*u)) (wd ws (96+2*u+1)) W Kt Ki);have HK:=hid (mT (wd ws (96+2*u)) (wd ws (96+2*u+1)));have U:=kB (wd ws (96+2*u)) (wd ws (96+2*u+1));have R:=hid (nc (wd ws (96+2*u)) (wd ws (96+2*u+1)));have Ke:=hid (Eq.out (96+2*u) (by omega));have Kj:=hid (Eq.out (96+2*u+1) (by omega));obtain⟨G,Kq⟩:=xq (wd ws (96+2*u));obtain⟨H,Kh⟩:=xq (wd ws (96+2*u+1));rw[Kq] at Ke HC HK R U d;rw[Kh] at Kj HC HK R U d;clear Kq Kh Kt Ki;have t0:(0:Int)<=(u:Int):=by omega
    have v:IntKind.i64.wrap (2*(u:Int))=2*(u:Int):=kqs _ (by omega);have w2:IntKind.i64.wrap (96+2*(u:Int))=96+2*(u:Int):=kqs _ (by omega);have w3:IntKind.i64.wrap (96+2*(u:Int)+1)=96+2*(u:Int)+1:=kqs _ (by omega);have i1:(0:Int)<=96+2*(u:Int):=by omega
    have i2:(96:Int)+2*(u:Int)<(ws.length:Int):=by omega
    have i3:(0:Int)<=96+2*(u:Int)+1:=by omega
    have i4:(96:Int)+2*(u:Int)+1<(ws.length:Int):=by omega
    have n1:((96:Int)+2*(u:Int)).toNat=96+2*u:=by omega
    have n2:((96:Int)+2*(u:Int)+1).toNat=96+2*u+1:=by omega
    go_wp2_with fail;refine (g.out _).mono ?_;rintro e v ⟨rfl,l⟩;have f:=O.trans (l.mono hz);have B:=f.alloc f.size (.cells #[.int .i64 0,.int .i64 (sz:Int),.int .i64 E,.int .i64 (u:Int),.bool false,.int .u64 ((0:Nat):Int)] 55);have bx:=Bx.new v 55 #[.int .i64 0,.int .i64 (sz:Int),.int .i64 E,.int .i64 (u:Int),.bool false,.int .u64 ((0:Nat):Int)];have Kd:(v.alloc (.cells #[.int .i64 0,.int .i64 (sz:Int),.int .i64 E,.int .i64 (u:Int),.bool false,.int .u64 ((0:Nat):Int)] 55)).heap.size=v.heap.size+1:=by simp
    have hw1:=f.size;simp only[kq9] at bx B Kd;clear p0 l f;go_wp2_with fail;obtain⟨W0,Ko⟩:∃W0,v.alloc (.cells #[.int .i64 0,.int .i64 (sz:Int),.int .i64 E,.int .i64 (u:Int),.bool false,.int .u64 0] 55)=W0:=⟨_,rfl⟩;rw[Ko] at bx B Kd |-;clear Ko;have h0:=Ke.out _ B;have h1:=Kj.out _ B;have b3:W0.cell? ⟨v.heap.size,3,none⟩=some (.int .i64 (u:Int)):=bx.cell 3;have Km:b<W0.heap.size:=by omega
    have Kg:v.heap.size<W0.heap.size:=by omega
    have BX:=hid bx;have Kw:=hid B;clear bx B Kd
    go_region_held3 (λX:World=>X.cell? ⟨b,F+(96+2*u),none⟩=some (.int .u64 (G:Int))/\X.cell? ⟨b,F+(96+2*u+1),none⟩=some (.int .u64 (H:Int))/\X.cell? ⟨v.heap.size,3,none⟩=some (.int .i64 (u:Int))) (go_keep)
     (first | (go_at_call 117;refine (HC.out _).mono ?_;rintro e w5 ⟨⟨A1,c1,rfl,Kk,Ku⟩,L⟩;have m0:=(L.cell (p:=⟨b,F+(96+2*u),none⟩) Km).trans h0;have m1:=(L.cell (p:=⟨b,F+(96+2*u+1),none⟩) Km).trans h1;have m2:=(L.cell (p:=⟨v.heap.size,3,none⟩) Kg).trans b3;have La:=hid Kk;have Kn:=hid L;clear Kk Ku))
    have Y:=sX A1 (bp G H) c1 (bp G H).length w5.heap.size w5 rfl (by omega) La.out;have Kf:kSz (bp G H)=bi (bp G H).length:=by simp[kSz,R.out]
    rw[R.out,Kf] at Y;have j:=hid Y;have c1x:w5.cell? ⟨v.heap.size,1,none⟩=some (.int .i64 (sz:Int)):=(Kn.out.cell (p:=⟨v.heap.size,1,none⟩) Kg).trans (BX.out.cell 1);have Ka:=hid (Kw.out.trans ((kqk _ _).drew.trans (Kn.out.mono (by show _<=W0.heap.size;omega))));obtain⟨m,Kr⟩:=xq ((bp G H).length);rw[Kr] at d j U |-;have Kz:bi m<=10:=by unfold bi;omega
    obtain⟨z,Kp⟩:=xq (bi m);rw[Kp] at j d Kz;have P:Hid (eN G H=if cr G H=true then 0 else 50):=hid rfl;obtain⟨r,hr⟩:=xq (eN G H);obtain⟨ok,Ks⟩:=xq (cr G H);rw[hr] at P HK |-;rw[Ks] at P d HK;clear hr Ks Y Kf Kr Kp m0 m1 m2 h0 h1 b3;cases ok
    .obtain rfl:r=50:=P.out;have C:=hid (Z.out.trans (o.out (by rw[d.out,kxz])));go_wp2_with fail;refine j.out.mono ?_;rintro e w6 ⟨rfl,rfl⟩;go_wp2;go_ret;exact⟨by rw[C.out];rfl,Ka.out⟩
    obtain rfl:r=0:=P.out;rw[kzq] at d;by_cases T:sz=z
    .have ez:((sz:Int) != (z:Int))=false:=by rw[kqr];omega
     have ezn:(sz != z)=false:=by rw[kqr];exact T
     have Kc:mdOk ws i=true:=by rw[d.out,kqw];omega
     have C:=hid (Z.out.trans (Q.out Kc));obtain⟨s2,-,s10⟩:=Ky.out Kc;rw[D.out] at C s2 s10;have hwr:IntKind.i64.wrap ((i:Int)+(sz:Int))=(i:Int)+(sz:Int):=kqs _ (by omega);clear T Kc;go_wp2_with fail;refine j.out.mono ?_;rintro e w6 ⟨rfl,rfl⟩;go_wp2;go_roundw
     case rel=>exact⟨i+sz,by omega,by omega,by rw[kjn],C.out,Ka.out⟩
     case measure=>simp[intOf];omega
    have ez:((sz:Int) != (z:Int))=true:=by rw[kqv];omega
    have ezn:(sz != z)=true:=by rw[kqv];exact T
    have C:=hid (Z.out.trans (o.out (by rw[d.out,kqi];omega)));clear T;go_wp2_with fail;refine j.out.mono ?_;rintro e w6 ⟨rfl,rfl⟩;go_wp2;go_ret;exact⟨by rw[C.out];rfl,Ka.out⟩
   rw[kvn,kxz] at d;have C:=hid (Z.out.trans (o.out d.out));clear d o Q;go_wp2_with fail;refine (g.out _).mono ?_;rintro e v ⟨rfl,l⟩;have f:=O.trans (l.mono hz);go_wp2;go_ret;exact⟨by rw[C.out];rfl,f.alloc f.size _⟩
  have ek:(E != 1)=true:=by rw[kqv];exact q
  have ek2:(E==1)=false:=by rw[kqi];exact q
  rw[ek2,kxz] at d;have C:=hid (Z.out.trans (o.out d.out));clear d o Q q;go_wp2_with fail;refine (g.out _).mono ?_;rintro e v ⟨rfl,l⟩;have f:=O.trans (l.mono hz);go_wp2;go_ret;exact⟨by rw[C.out];rfl,f.alloc f.size _⟩
 have HE:=hid (Z.out.trans (kj (ws:=ws) (i:=i) (t:=t) (by omega)));have hdl:decide ((i:Int)<(t:Int))=false:=by rw[kqc];omega
 have hdln:decide (i<t)=false:=by rw[kqc];exact K
 have Kv:Hid (((i:Int)==(t:Int))=(i==t)):=hid (by rw[kzg,kqw,kqw];omega);clear K;go_wp2;go_ret;exact⟨by rw[HE.out,<-Kv.out];rfl,O⟩
theorem Ef(h:cP ws=r)(h0:r≠0):az ws=r:=by subst h;simp[az,h0]
theorem lnV_no(h0:cP ws≠0):lnV ws=phV 0 0 0:=by simp[lnV,h0]
theorem FQ(h:cP ws=0)(h4:wd ws 16=4)(hm:mvd ws 128 (wd ws 18)=false):az ws=50:=by simp[az,h,h4,hm]
theorem Ey(h:cP ws=0)(h4:wd ws 16=4)(hm:mvd ws 128 (wd ws 18)=true):az ws=bh ws (wd ws 17:Nat) (wd ws 18:Nat):=by simp[az,h,h4,hm]
theorem DC(h:cP ws=0)(h3:wd ws 16=3):az ws=bh ws 128 128:=by simp[az,h,h3]
theorem EP(h:cP ws=0)(h3:wd ws 16<3):az ws=ah ws:=by unfold az;rw[if_pos h,if_neg (by omega),if_neg (by omega)]
theorem vu(A:Option Addr)(ws:List Nat)(c n:Nat)(w:World)(hn:ws.length=n)(hm:n<=9223372036854775807)(hc:n<=c)(J:RdW w w.heap.size A ws)(ho:∀x∈ws,x<18446744073709551616):
 Calls prog 101 #[.slice A n c] w λe w'=>e=.returned (.tuple #[lnV ws,.int .i64 (az ws)])/\Below w.heap.size w w':=by
 subst hn;have HR:=hid J;have HO:=hid ho;clear J ho;have b0:=Bx.new w 107 #[.int .i64 0,.int .i64 0,.int .i64 0];have HC:=hid (uZ A ws c ws.length (w.alloc (.cells #[.int .i64 0,.int .i64 0,.int .i64 0] 107)) rfl hm hc ((HR.out.alloc (kqa _) _).more (by simp)) HO.out);rw[kqm] at HC;by_cases h0:cP ws=0
 .obtain ⟨h1,h2⟩:=iJ h0;obtain⟨hs,h3,h4⟩:=f8 h1;obtain⟨⟨l0,l1,l2⟩,-⟩:=(bo ws).1 h3;have Kj:=gX ws hs;have Kg:lnV ws=phV (wd ws 16) (wd ws 17) (wd ws 18):=by simp[lnV,h0]
  have Kn:wd ws 16<=4:=by rcases (co _ _ _).1 h4 with h|h|h<;>omega
  have Ke:=hid (λW (h:RdW W W.heap.size A ws)=>Jo A ws c ws.length (wd ws 18) W rfl (by omega) (by omega) l2 h HO.out);have Km:=hid (λ(f s:Int) hf hs W (h:RdW W W.heap.size A ws)=>pS A ws c ws.length f s W rfl hm hf hs h HO.out);have Kl:=hid (λW (h:RdW W W.heap.size A ws)=>mO A ws c ws.length W rfl hm h HO.out);have Kd:=hid h0;have Q:=hid (λh4 hm=>FQ Kd.out h4 hm);have S:=hid (λh4 hm=>Ey Kd.out h4 hm);have V:=hid (λh3=>DC Kd.out h3);have Eq:=hid (λh3=>EP Kd.out h3);have N:Hid (∀t:World,Below w.heap.size w t->RdW (t.alloc (.cells #[.int .i64 (wd ws 16:Int),.int .i64 (wd ws 17:Int),.int .i64 (wd ws 18:Int)] 107)) (t.alloc (.cells #[.int .i64 (wd ws 16:Int),.int .i64 (wd ws 17:Int),.int .i64 (wd ws 18:Int)] 107)).heap.size A ws):=hid λt h2=>((HR.out.up h2 h2.size).alloc (kqa _) _).more (by simp);rw[h0,Kg] at HC;rw[Kg];unfold phV at HC |-;have hlen2:ws.length<=2048:=Kj.2.1;clear h0 h1 h2 hs h3 h4 Kg b0 Kj;obtain⟨x,hx⟩:=xq (wd ws 16);obtain⟨y,hy⟩:=xq (wd ws 17);obtain⟨z,hz⟩:=xq (wd ws 18);rw[hx] at Kn;rw[hx,hy,hz] at HC N |-;rw[hx,hz] at Q;rw[hx,hy,hz] at S;rw[hx] at V Eq;rw[hz] at Ke l2;rw[hy] at l1;clear hx hy hz l0;by_cases x4:x=4
  .have e4:((x:Int)==4)=true:=by rw[kqw];omega
   have e4n:(x==4)=true:=by rw[kqw];exact x4
   obtain⟨m,Kh⟩:=xq (mvd ws 128 z);rw[Kh] at Ke Q S;cases m
   .have K:=hid (Q.out x4 rfl);clear Q S V Eq x4 Kh;go_enter func101,ntmps101;go_wp2_with fail;refine HC.out.mono ?_;rintro e t ⟨rfl,b⟩;have a:=aw b;have j:=hid (N.out _ a);have H:=Bx.of_new b;have B1:=hid H;have i:=hid a;obtain⟨Y,T,q2,f0,Z,U,G⟩:=H.c3;clear b a H;go_wp2_with fail;have D:=Bx.new t 107 #[.int .i64 (x:Int),.int .i64 (y:Int),.int .i64 (z:Int)];have g:=i.out.alloc i.out.size (.cells #[.int .i64 (x:Int),.int .i64 (y:Int),.int .i64 (z:Int)] 107);have d:=B1.out.alloc (.cells #[.int .i64 (x:Int),.int .i64 (y:Int),.int .i64 (z:Int)] 107);obtain⟨o,B⟩:∃o,t.alloc (.cells #[.int .i64 (x:Int),.int .i64 (y:Int),.int .i64 (z:Int)] 107)=o:=⟨_,rfl⟩;rw[B] at D g d j |-;clear B Y T q2 f0 Z U;have M:=D.lt;have Kc:=d.lt;obtain⟨p0,p1,p2,-⟩:=D.c3;have BW:=hid D;have u:=hid g;have E:=hid d;clear D g d;go_quiet (fail);go_wp2_with fail;refine (Ke.out _ (show RdW (o.drewN _) (o.drewN _).heap.size A ws from j.out)).mono ?_;rintro e w2 ⟨rfl,Kb⟩;have l:=(aW (kqk o.heap.size o) _).trans Kb;have BW2:=hid (BW.out.up l BW.out.lt);have Ka:=hid (E.out.up l E.out.lt);have Kf:=hid (u.out.trans (l.mono u.out.size));have Kk:=hid (j.out.up l l.size);obtain⟨p0,p1,p2,-⟩:=BW2.out.c3
    obtain⟨Y,T,q2,f0,Z,U,G⟩:=Ka.out.c3;clear Kb l;go_wp2_with fail;exact kqo (v:=.tuple #[.agg #[.int .i64 (x:Int),.int .i64 (y:Int),.int .i64 (z:Int)],.int .i64 50]) (bB results101 _ (((Ka.out.set_ 0 _).set_ 1 _).set_ 2 _) rfl rfl) rfl ⟨by rw[K.out],((Kf.out.setCell (kqa _) _).setCell (kqa _) _).setCell (kqa _) _⟩
   have K:=hid (S.out x4 rfl);have L:=hid (λW h=>Km.out (y:Int) (z:Int) (by omega) (by omega) W h);unfold yH at L;obtain⟨r,J⟩:∃r,bh ws (y:Int) (z:Int)=r:=⟨_,rfl⟩;obtain⟨q,hq⟩:∃q,iB ws (y:Int) (z:Int)=q:=⟨_,rfl⟩;rw[J,hq] at L;rw[J] at K;clear Q S V Eq x4 Kh J hq;go_enter func101,ntmps101;go_wp2_with fail;refine HC.out.mono ?_;rintro e t ⟨rfl,b⟩;have a:=aw b;have j:=hid (N.out _ a);have H:=Bx.of_new b;have B1:=hid H;have i:=hid a;obtain⟨Y,T,q2,f0,Z,U,G⟩:=H.c3;clear b a H;go_wp2_with fail;have D:=Bx.new t 107 #[.int .i64 (x:Int),.int .i64 (y:Int),.int .i64 (z:Int)];have g:=i.out.alloc i.out.size (.cells #[.int .i64 (x:Int),.int .i64 (y:Int),.int .i64 (z:Int)] 107);have d:=B1.out.alloc (.cells #[.int .i64 (x:Int),.int .i64 (y:Int),.int .i64 (z:Int)] 107);obtain⟨o,B⟩:∃o,t.alloc (.cells #[.int .i64 (x:Int),.int .i64 (y:Int),.int .i64 (z:Int)] 107)=o:=⟨_,rfl⟩;rw[B] at D g d j |-;clear B Y T q2 f0 Z U;have M:=D.lt;have Kc:=d.lt;obtain⟨p0,p1,p2,-⟩:=D.c3;have BW:=hid D;have u:=hid g;have E:=hid d;clear D g d;go_quiet (fail);go_wp2_with fail;refine (Ke.out _ (show RdW (o.drewN _) (o.drewN _).heap.size A ws from j.out)).mono ?_;rintro e w2 ⟨rfl,Kb⟩
   have l:=(aW (kqk o.heap.size o) _).trans Kb;have BW2:=hid (BW.out.up l BW.out.lt);have Ka:=hid (E.out.up l E.out.lt);have Kf:=hid (u.out.trans (l.mono u.out.size));have Kk:=hid (j.out.up l l.size);obtain⟨p0,p1,p2,-⟩:=BW2.out.c3;obtain⟨Y,T,q2,f0,Z,U,G⟩:=Ka.out.c3;clear Kb l;go_wp2_with fail;refine (L.out _ Kk.out).mono ?_;rintro e w3 ⟨⟨A1,c1,rfl,-,-⟩,C⟩;have k:=(kqk w2.heap.size w2).trans C;have O:=hid (BW2.out.up k BW2.out.lt);have F:=hid (Ka.out.up k Ka.out.lt);have R:=hid (Kf.out.trans (k.mono Kf.out.size));obtain⟨p0,p1,p2,-⟩:=O.out.c3;obtain⟨Y,T,q2,f0,Z,U,G⟩:=F.out.c3;clear C k;by_cases P:r=0
   .subst P;go_wp2_with fail;exact kqo (v:=.tuple #[.agg #[.int .i64 (x:Int),.int .i64 (y:Int),.int .i64 (z:Int)],.int .i64 0]) (bB results101 _ (((F.out.set_ 0 _).set_ 1 _).set_ 2 _) rfl rfl) rfl ⟨by rw[K.out],((R.out.setCell (kqa _) _).setCell (kqa _) _).setCell (kqa _) _⟩
   have Ki:(r != 0)=true:=by rw[kqv];exact P
   clear P;go_wp2_with fail;exact kqo (v:=.tuple #[.agg #[.int .i64 (x:Int),.int .i64 (y:Int),.int .i64 (z:Int)],.int .i64 r]) (bB results101 _ (((F.out.set_ 0 _).set_ 1 _).set_ 2 _) rfl rfl) rfl ⟨by rw[K.out],((R.out.setCell (kqa _) _).setCell (kqa _) _).setCell (kqa _) _⟩
  have e4:((x:Int)==4)=false:=by rw[kqi];omega
  have e4n:(x==4)=false:=by rw[kqi];exact x4
  by_cases x3:x=3
  .have e3:((x:Int)==3)=true:=by rw[kqw];omega
   have e3n:(x==3)=true:=by rw[kqw];exact x3
   have K:=hid (V.out x3);have L:=hid (λW h=>Km.out 128 128 (by omega) (by omega) W h);unfold yH at L;obtain⟨r,J⟩:=xq (bh ws 128 128);obtain⟨q,hq⟩:=xq (iB ws 128 128);rw[J,hq] at L;rw[J] at K;clear Q S V Eq x4 x3 J hq;go_enter func101,ntmps101;go_wp2_with fail;refine HC.out.mono ?_;rintro e t ⟨rfl,b⟩;have a:=aw b;have j:=hid (N.out _ a);have H:=Bx.of_new b;have B1:=hid H;have i:=hid a;obtain⟨Y,T,q2,f0,Z,U,G⟩:=H.c3;clear b a H;go_wp2_with fail;have D:=Bx.new t 107 #[.int .i64 (x:Int),.int .i64 (y:Int),.int .i64 (z:Int)];have g:=i.out.alloc i.out.size (.cells #[.int .i64 (x:Int),.int .i64 (y:Int),.int .i64 (z:Int)] 107);have d:=B1.out.alloc (.cells #[.int .i64 (x:Int),.int .i64 (y:Int),.int .i64 (z:Int)] 107);obtain⟨o,B⟩:∃o,t.alloc (.cells #[.int .i64 (x:Int),.int .i64 (y:Int),.int .i64 (z:Int)] 107)=o:=⟨_,rfl⟩;rw[B] at D g d j |-;clear B Y T q2 f0 Z U;have M:=D.lt;have Kc:=d.lt;obtain⟨p0,p1,p2,-⟩:=D.c3;have BW:=hid D;have u:=hid g;have E:=hid d;clear D g d;refine (L.out _ j.out).mono ?_;rintro e w3 ⟨⟨A1,c1,rfl,-,-⟩,C⟩;have k:=(kqk o.heap.size o).trans C;have O:=hid (BW.out.up k BW.out.lt);have F:=hid (E.out.up k E.out.lt);have R:=hid (u.out.trans (k.mono u.out.size));obtain⟨p0,p1,p2,-⟩:=O.out.c3;obtain⟨Y,T,q2,f0,Z,U,G⟩:=F.out.c3;clear C k;by_cases P:r=0
   .subst P;go_wp2_with fail;exact kqo (v:=.tuple #[.agg #[.int .i64 (x:Int),.int .i64 (y:Int),.int .i64 (z:Int)],.int .i64 0]) (bB results101 _ (((F.out.set_ 0 _).set_ 1 _).set_ 2 _) rfl rfl) rfl ⟨by rw[K.out],((R.out.setCell (kqa _) _).setCell (kqa _) _).setCell (kqa _) _⟩
   have Ki:(r != 0)=true:=by rw[kqv];exact P
   clear P;go_wp2_with fail;exact kqo (v:=.tuple #[.agg #[.int .i64 (x:Int),.int .i64 (y:Int),.int .i64 (z:Int)],.int .i64 r]) (bB results101 _ (((F.out.set_ 0 _).set_ 1 _).set_ 2 _) rfl rfl) rfl ⟨by rw[K.out],((R.out.setCell (kqa _) _).setCell (kqa _) _).setCell (kqa _) _⟩
  have e3:((x:Int)==3)=false:=by rw[kqi];omega
  have e3n:(x==3)=false:=by rw[kqi];exact x3
  have K:=hid (Eq.out (by omega));obtain⟨r,J⟩:=xq (ah ws);rw[J] at Kl K;clear Q S V Eq x4 x3 J;go_enter func101,ntmps101;go_wp2_with fail;refine HC.out.mono ?_;rintro e t ⟨rfl,b⟩;have a:=aw b;have j:=hid (N.out _ a);have H:=Bx.of_new b;have B1:=hid H;have i:=hid a;obtain⟨Y,T,q2,f0,Z,U,G⟩:=H.c3;clear b a H;go_wp2_with fail;have D:=Bx.new t 107 #[.int .i64 (x:Int),.int .i64 (y:Int),.int .i64 (z:Int)];have g:=i.out.alloc i.out.size (.cells #[.int .i64 (x:Int),.int .i64 (y:Int),.int .i64 (z:Int)] 107);have d:=B1.out.alloc (.cells #[.int .i64 (x:Int),.int .i64 (y:Int),.int .i64 (z:Int)] 107);obtain⟨o,B⟩:∃o,t.alloc (.cells #[.int .i64 (x:Int),.int .i64 (y:Int),.int .i64 (z:Int)] 107)=o:=⟨_,rfl⟩;rw[B] at D g d j |-;clear B Y T q2 f0 Z U;have M:=D.lt;have Kc:=d.lt;obtain⟨p0,p1,p2,-⟩:=D.c3;have BW:=hid D;have u:=hid g;have E:=hid d;clear D g d;have I:t.heap.size≠w.heap.size:=by omega
  go_region_held3 (λX:World=>X.cell? ⟨t.heap.size,0,none⟩=some (.int .i64 (x:Int))/\X.cell? ⟨t.heap.size,1,none⟩=some (.int .i64 (y:Int))/\X.cell? ⟨t.heap.size,2,none⟩=some (.int .i64 (z:Int))) (first | exact⟨(((O.out.far I _).far I _).far I _).cell 0,(((O.out.far I _).far I _).far I _).cell 1,(((O.out.far I _).far I _).far I _).cell 2⟩ | go_keep)
   (first | (go_at_call 162;refine (Kl.out _ (show RdW o.drew o.drew.heap.size A ws from j.out)).mono ?_;rintro e w3 ⟨rfl,C⟩;have m0:=(C.cell (p:=⟨t.heap.size,0,none⟩) M).trans p0;have m1:=(C.cell (p:=⟨t.heap.size,1,none⟩) M).trans p1;have m2:=(C.cell (p:=⟨t.heap.size,2,none⟩) M).trans p2;have k:Below o.heap.size o w3:=(kqk o.heap.size o).drew.trans C;have F:=hid (E.out.up k Kc);have O:=hid (BW.out.up k M);have R:=hid (u.out.trans (k.mono u.out.size));clear C k;obtain⟨Y,T,q2,f0,Z,U,G⟩:=F.out.c3))
  go_wp2_with fail;exact kqo (v:=.tuple #[.agg #[.int .i64 (x:Int),.int .i64 (y:Int),.int .i64 (z:Int)],.int .i64 r]) (bB results101 _ (((F.out.set_ 0 _).set_ 1 _).set_ 2 _) rfl rfl) rfl ⟨by rw[K.out],((R.out.setCell (kqa _) _).setCell (kqa _) _).setCell (kqa _) _⟩
 have K:=hid (λr h=>Ef (ws:=ws) (r:=r) h);rw[lnV_no h0] at HC |-;obtain⟨r,J⟩:=xq (cP ws);rw[J] at HC h0;have K:=hid (K.out r J h0);have Ki:(r != 0)=true:=by rw[kqv];exact h0
 unfold phV at HC |-;simp only[kq9] at HC |-;have N:Hid (∀t:World,Below w.heap.size w t->True):=hid λ_ _=>trivial;clear h0 J b0;go_enter func101,ntmps101;go_wp2_with fail;refine HC.out.mono ?_;rintro e t ⟨rfl,b⟩;have a:=aw b;have j:=hid (N.out _ a);have H:=Bx.of_new b;have B1:=hid H;have i:=hid a;obtain⟨Y,T,q2,f0,Z,U,G⟩:=H.c3;clear b a H;go_wp2_with fail;exact kqo (v:=.tuple #[.agg #[.int .i64 0,.int .i64 0,.int .i64 0],.int .i64 r]) (bB results101 _ ((((B1.out.set_ 0 _).set_ 1 _).set_ 2 _).alloc _) rfl rfl) rfl ⟨by rw[K.out],(((i.out.setCell (kqa _) _).setCell (kqa _) _).setCell (kqa _) _).alloc (by simp;exact i.out.size) _⟩
theorem nR(A:Option Addr)(ws:List Nat)(c n:Nat)(w:World)(hn:ws.length=n)(hm:n<=9223372036854775807)(hc:n<=c)(hr:RdW w w.heap.size A ws)(ho:∀x∈ws,x<18446744073709551616):
 Calls prog 52 #[.slice A n c] w λe w'=>e=.returned (.int .i64 (az ws))/\Below w.heap.size w w':=by
 have d:=hid (vu A ws c n w hn hm hc hr ho);have f:∃x y z:Nat,lnV ws=phV x y z:=by
  unfold lnV;split
  .exact ⟨_,_,_,rfl⟩
  exact⟨0,0,0,rfl⟩
 obtain⟨x,y,z,f⟩:=f;rw[f] at d;unfold phV at d;obtain⟨r,b⟩:=xq (az ws);rw[b] at d |-;clear b f hr ho hn;go_enter func52,ntmps52;go_wp2_with fail;refine d.out.mono ?_;rintro e w1 ⟨rfl,a⟩;go_wp2;go_ret;exact⟨rfl,a.alloc a.size _⟩
theorem lfN_no(h:az ws≠0):lfN ws=0:=by simp[lfN,h]
theorem JB(h:wd ws 16<3):lfN ws=0:=by simp[lfN,h]
theorem Bl(h:az ws=0)(h2:¬ wd ws 16<3):lfN ws=(eG (aQ ws (ga ws))).length:=by unfold lfN;rw[if_pos h,if_neg h2]
theorem kQ(h:az ws=0):cP ws=0:=by
 unfold az at h;split at h
 .assumption
 exact h
theorem wI(hk:k<l.length):(eG (l.take (k+1))).length=(eG (l.take k)).length+(if l[k].mark=true then 1 else 0):=by rw[sH hk,kqu];split<;>rfl
theorem If(A:Option Addr)(ws:List Nat)(c n:Nat)(w:World)(hn:ws.length=n)(hm:n<=9223372036854775807)(hc:n<=c)(E:RdW w w.heap.size A ws)(ho:∀x∈ws,x<18446744073709551616):
 Calls prog 164 #[.slice A n c] w λe w'=>e=.returned (.tuple #[.int .i64 (lfN ws:Nat),.int .i64 (az ws)])/\Below w.heap.size w w':=by
 subst hn;have p:=hid (vu A ws c ws.length w rfl hm hc E ho);have HR:=hid E;have HO:=hid ho;clear E ho;by_cases o:az ws=0
 .obtain ⟨h1,-⟩:=iJ (kQ o);obtain⟨hs,h3,h4⟩:=f8 h1;obtain⟨⟨l0,l1,l2⟩,-⟩:=(bo ws).1 h3;have K:=gX ws hs;have O:lnV ws=phV (wd ws 16) (wd ws 17) (wd ws 18):=by simp[lnV,kQ o]
  have j:=hid (λh=>JB (ws:=ws) h);have f:=hid (λh=>Bl o h);have s:=hid (λW (h:RdW W W.heap.size A ws)=>mf A ws c ws.length (ga ws) W rfl hm h HO.out);unfold qW at s;have M:=ix ws (ga ws);have B:Hid (ga ws=if (wd ws 17:Int)<128 then 128 else (wd ws 17:Int)):=hid rfl;have I:Hid (∀v:World,Below w.heap.size w v->RdW (v.alloc (.cells #[.int .i64 (wd ws 16:Int),.int .i64 (wd ws 17:Int),.int .i64 (wd ws 18:Int)] 107)) (v.alloc (.cells #[.int .i64 (wd ws 16:Int),.int .i64 (wd ws 17:Int),.int .i64 (wd ws 18:Int)] 107)).heap.size A ws):=hid λv h2=>((HR.out.up h2 h2.size).alloc (kqa _) _).more (by simp);rw[o,O] at p;rw[o];unfold phV at p;have hlen2:ws.length<=2048:=K.2.1;clear o h1 hs h3 h4 O K;obtain⟨x,D⟩:=xq (wd ws 16);obtain⟨y,Y⟩:=xq (wd ws 17);obtain⟨z,S⟩:=xq (wd ws 18);obtain⟨g,V⟩:=xq (ga ws);obtain⟨l,Z⟩:=xq (aQ ws g);obtain⟨r,E⟩:=xq (cc ws g);obtain⟨N,hN⟩:=xq (lfN ws);rw[V,Z,E] at s;rw[hN] at j f |-;rw[V,Z] at f;rw[V,Z] at M;rw[V,Y] at B;rw[D,Y,S] at p I;rw[D] at j f;rw[Y] at l1;clear D Y S V Z E hN l0 l2;by_cases C:x<3
  .have hd:decide ((x:Int)<3)=true:=by rw[kqn];omega
   have Kb:decide (x<3)=true:=by rw[kqn];exact C
   have T:=hid (j.out C);clear j f C B;go_enter func164,ntmps164;go_wp2_with fail;refine p.out.mono ?_;rintro e v ⟨rfl,a⟩;go_wp2;go_ret2;exact⟨by rw[T.out];rfl,a.alloc a.size _⟩
  have hd:decide ((x:Int)<3)=false:=by rw[kqc];omega
  have Kb:decide (x<3)=false:=by rw[kqc];exact C
  have T:=hid (f.out C);clear j f C;go_enter func164,ntmps164;go_wp2_with fail;refine p.out.mono ?_;rintro e v ⟨rfl,a⟩;have Ka:=hid (I.out _ a);have F:=hid a;clear a;go_wp2_with fail
  all_goals
   have J:Hid (∀q,g=q->∀W:World,RdW W W.heap.size A ws->Calls prog 65 #[.slice A ws.length c,.int .i64 q] W λe w'=>(∃A c,e=Ending.returned (.tuple #[.slice A l.length c,.int .i64 r])/\RdB w' w'.heap.size A l/\l.length<=c)/\Below W.heap.size W w'):=hid (λq hq=>by rw[<-hq];exact s.out);refine (J.out _ (by rw[B.out];first|rw[if_pos (by assumption)] | rw[if_neg (by omega)]) _ Ka.out).mono ?_;rintro e w2 ⟨⟨A1,c1,rfl,L,-⟩,t⟩;rw[kqm] at t;have U:=hid (F.out.trans ((aw t).mono F.out.size));have Kc:=hid L;have Eq:=U.out.size;clear L t J;go_wp2_with fail;go_loopw [8,32] (λm i wr=>∃k:Nat,k<=l.length/\i=.int .i64 k/\m=.int .i64 ((eG (l.take k)).length:Nat)/\Below w2.heap.size w2 wr) (λ_ i _=>l.length-(intOf i).toNat)
   case atStart=>exact⟨0,kqy _,rfl,rfl,kqk _ _⟩
   obtain⟨k,hk,rfl,rfl,P⟩:=hrel;have S:=P.size;by_cases G:k<l.length
   .obtain ⟨b,off,rfl,hbw,q0,q1,q2,q3,q4,q5⟩:=RdB.at_ (Kc.out.below P) G;have d:=hid (wI G);have R:=FK (l.take k);rw[kq3] at R;obtain⟨m,Q⟩:=xq ((eG (l.take k)).length);rw[Q] at d R |-;obtain⟨x',D⟩:∃x,l[k]=x:=⟨_,rfl⟩;rw[D] at q0 q1 q2 q3 q4 q5 d;obtain⟨xa,xs,xk,xt,xm,xn⟩:=x';dsimp only at q0 q1 q2 q3 q4 q5 d;have hlm:(k:Int)<(l.length:Int):=by omega
    have hmk:(m:Int)<=4611686018427387904:=by omega
    clear D Q;cases xm
    .have u:=hid (d.out.trans (kz8 m));clear d;go_wp2;go_roundw
     case rel=>exact⟨k+1,by omega,by go_num,by rw[u.out],P.alloc S _⟩
     case measure=>simp[intOf];omega
    have u:=hid (show (eG (l.take (k+1))).length=m+1 from d.out);clear d;go_wp2;go_roundw
    case rel=>exact⟨k+1,by omega,by go_num,by rw[u.out];go_num,P.alloc S _⟩
    case measure=>simp[intOf];omega
   rw[kq5 (by omega)];rw[<-T.out];go_wp2;go_ret2;exact⟨rfl,U.out.trans (P.mono Eq)⟩
 have T:=hid (lfN_no o);have X:∃x y z:Nat,lnV ws=phV x y z:=by
  unfold lnV;split
  .exact ⟨_,_,_,rfl⟩
  exact⟨0,0,0,rfl⟩
 obtain⟨x,y,z,X⟩:=X;rw[X] at p;unfold phV at p;obtain⟨r,H⟩:=xq (az ws);rw[H] at p o |-;have hrn:(r != 0)=true:=by rw[kqv];exact o
 clear H X o;go_enter func164,ntmps164;go_wp2_with fail;refine p.out.mono ?_;rintro e v ⟨rfl,a⟩;go_wp2;go_ret2;exact⟨by rw[T.out];rfl,a.alloc a.size _⟩
end Go.Proofs.YtpcajamacpbjcaaGreat
