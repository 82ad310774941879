/- Texts laid together: PhP Ph Cur1 Mvd Ck Left. -/
import Derived.Test.YtpcajamacpbjcaaGreatZKHead
import Derived.Test.YtpcajamacpbjcaaGreatZKPlain
import Derived.Test.YtpcajamacpbjcaaGreatZKHeap
import Derived.Deep.RegionHeld3
import Derived.Deep.DrawnRows
import Derived.Laws.BitsLemmas
import Derived.Test.YtpcajamacpbjcaaGreatZKMove
set_option maxHeartbeats 16000000
set_option maxRecDepth 100000
set_option linter.all false
namespace Go.Proofs.YtpcajamacpbjcaaGreat
open Lib (hid)
variable {r:Int}{l:List Bk}{ws:List Nat}{f i k t:Nat}
open Go.Proofs.Tryz
def kU (n:Nat):Bool:=decide (128<=n)&&(decide (n<=2048)&&n%2==0)
theorem aQ(n:Nat):kU n=true↔128<=n/\n<=2048/\n%2=0:=by simp[kU]
def wB (p f t:Nat):Bool:=if p=4 then kU f&&(kU t&&decide (t<=f)) else if t≠0 then false else if p=3 then f==0||kU f else decide (p<3)&&f==0
theorem b8(p f t:Nat):wB p f t=true↔p=4/\kU f=true/\kU t=true/\t<=f\/p=3/\t=0/\(f=0\/kU f=true)\/p<3/\t=0/\f=0:=by
 unfold wB;split
 .rename_i h;subst h;simp
 rename_i h4;split
 .rename_i h;simp[h4,h]
 rename_i h;have a:t=0:=by omega
 subst a;split
 .rename_i h3;subst h3;simp
 rename_i h3;simp[h4,h3]
def iP (ws:List Nat):Bool:=(decide (wd ws 16<=ws.length)&&(decide (wd ws 17<=ws.length)&&decide (wd ws 18<=ws.length)))&&(wd ws 19==0&&(wd ws 20==0&&(wd ws 21==0&&(wd ws 22==0&&wd ws 23==0))))
def cH (ws:List Nat):Int:=if ak (ws.length:Int)=true then (if (iP ws&&wB (wd ws 16) (wd ws 17) (wd ws 18))=true then 0 else 50) else 8
def phV (p f t:Nat):Value:=.agg #[.int .i64 (p:Int),.int .i64 (f:Int),.int .i64 (t:Int)]
def prV (ws:List Nat):Value:=if cH ws=0 then phV (wd ws 16) (wd ws 17) (wd ws 18) else phV 0 0 0
theorem qy(h:ak (ws.length:Int)=false):cH ws=8/\prV ws=phV 0 0 0:=by simp[prV,cH,h]
theorem qx(h:ak (ws.length:Int)=true)(h2:(iP ws&&wB (wd ws 16) (wd ws 17) (wd ws 18))=false):cH ws=50/\prV ws=phV 0 0 0:=by simp[prV,cH,h,h2]
theorem lW(h:ak (ws.length:Int)=true)(h2:(iP ws&&wB (wd ws 16) (wd ws 17) (wd ws 18))=true):cH ws=0/\prV ws=phV (wd ws 16) (wd ws 17) (wd ws 18):=by simp[prV,cH,h,h2]
theorem cK(h:cH ws=0):ak (ws.length:Int)=true/\iP ws=true/\wB (wd ws 16) (wd ws 17) (wd ws 18)=true:=by
 unfold cH at h;split at h
 .split at h
  .rename_i h1 h2;simp only[kqw] at h2;exact⟨h1,h2⟩
  simp at h
 simp at h
theorem qo(ws:List Nat):cH ws=0\/cH ws=8\/cH ws=50:=by
 unfold cH;split
 .split<;>simp
 simp
theorem aY(ws:List Nat):iP ws=true↔(wd ws 16<=ws.length/\wd ws 17<=ws.length/\wd ws 18<=ws.length)/\wd ws 19=0/\wd ws 20=0/\wd ws 21=0/\wd ws 22=0/\wd ws 23=0:=by simp[iP]
theorem CG(hi:i<8)(h:i<3/\ws.length<wd ws (16+i)\/3<=i/\wd ws (16+i)≠0):iP ws=false:=by
 cases a:iP ws with
 | false=>rfl
 | true =>
  obtain⟨⟨a0,a1,a2⟩,a3,a4,a5,a6,a7⟩:=(aY ws).1 a;exfalso
  match i,hi with
  | 0,_=>simp only[kz6] at h;omega
  | 1,_=>simp only[Nat.reduceAdd] at h;omega
  | 2,_=>simp only[Nat.reduceAdd] at h;omega
  | 3,_=>simp only[Nat.reduceAdd] at h;omega
  | 4,_=>simp only[Nat.reduceAdd] at h;omega
  | 5,_=>simp only[Nat.reduceAdd] at h;omega
  | 6,_=>simp only[Nat.reduceAdd] at h;omega
  | 7,_=>simp only[Nat.reduceAdd] at h;omega
def nn (ws:List Nat) (f:Nat):Bool:=match blocks ws 128 with
 | none=>false
 | some l=>l.any (λb=>b.at_==(f:Int))||f==ws.length
def cF (ws:List Nat):Int:=if cH ws=0 then (if wd ws 16=3/\wd ws 17≠0/\nn ws (wd ws 17)=false then 50 else 0) else cH ws
def lnV (ws:List Nat):Value:=if cF ws=0 then phV (wd ws 16) (wd ws 17) (wd ws 18) else phV 0 0 0
theorem dt(h:cF ws=0):cH ws=0/\(wd ws 16=3->wd ws 17≠0->nn ws (wd ws 17)=true):=by
 unfold cF at h;split at h
 .rename_i h1;refine⟨h1,λa c=>?_⟩;split at h
  .simp at h
  rename_i h4;cases b:nn ws (wd ws 17) with
  | true=>rfl
  | false=>exact absurd ⟨a,c,b⟩ h4
 rename_i h1;exact absurd h h1
theorem z4(ws:List Nat):cF ws=0\/cF ws=8\/cF ws=50:=by
 unfold cF;split
 .split<;>simp
 exact qo ws
def lR (ws:List Nat) (i:Nat):Bool:=ay (wd ws i)&&((ah (wd ws i)).kind==1&&(!(ah (wd ws i)).mark&&db ws (ah (wd ws i))))
def Ae (ws:List Nat):Nat->Nat->Nat->Bool
 | 0,i,t=>i==t
 | f+1,i,t=>if i<t then lR ws i&&Ae ws f (i+szAt ws i) t else i==t
theorem jR(h:lR ws i=true):2<=szAt ws i/\szAt ws i%2=0/\szAt ws i<=10:=by unfold lR ay at h;simp only[kqw,kqu] at h;obtain⟨⟨a,-⟩,h2,-⟩:=h;have h3:=(bj _).1 a;have e:(ah (wd ws i)).size=((szAt ws i:Nat):Int):=rfl;omega
theorem mT :∀ {f i g:Nat},t-i<=f->t-i<=g->Ae ws f i t=Ae ws g i t:=by
 intro f
 induction f with
 | zero =>
  intro i g h b;cases g with
  | zero=>rfl
  | succ g=>simp only[Ae];rw[if_neg (by omega)]
 | succ f ih =>
  intro i g h b;cases g with
  | zero=>simp only[Ae];rw[if_neg (by omega)]
  | succ g =>
   simp only[Ae];split
   .cases a:lR ws i with
    | false=>simp
    | true =>have:=jR a;rw[ih (i:=i+szAt ws i) (by omega) (g:=g) (by omega)]
   rfl
def mvd (ws:List Nat) (i t:Nat):Bool:=Ae ws t i t
theorem iU(h:t<=i):mvd ws i t=(i==t):=by unfold mvd;rw[mT (g:=0) (by omega) (by omega)];rfl
theorem jC(h:i<t)(h2:lR ws i=true):mvd ws i t=mvd ws (i+szAt ws i) t:=by unfold mvd;have:=jR h2;rw[mT (g:=t+1) (by omega) (by omega),Ae,if_pos h,h2,kzz]
theorem pU(h:i<t)(h2:lR ws i=false):mvd ws i t=false:=by unfold mvd;rw[mT (g:=t+1) (by omega) (by omega),Ae,if_pos h,h2,kxt]
def aw (ws:List Nat):Int:=if cF ws=0 then (if wd ws 16=4 then (if mvd ws 128 (wd ws 18)=true then bi ws (wd ws 17:Nat) (wd ws 18:Nat) else 50) else if wd ws 16=3 then bi ws 128 128 else ag ws) else cF ws
def fN (ws:List Nat):Int:=if (wd ws 17:Int)<128 then 128 else (wd ws 17:Int)
def lfN (ws:List Nat):Nat:=if aw ws=0 then (if wd ws 16<3 then 0 else (ed (aU ws (fN ws))).length) else 0
open Go.RowKit
theorem Cc(n:Int):bits .and .i64 n 1=n%2:=by
 have b:(BitVec.ofInt 64 1).toNat=2 ^ 1-1:=by decide
 have a:(BitVec.ofInt 64 n &&& BitVec.ofInt 64 1).toNat=(n%((2 ^ 64:Nat):Int)).toNat%2 ^ 1:=by rw[BitVec.toNat_and,BitVec.toNat_ofInt,b,kjh]
 show IntKind.i64.wrap ((BitVec.ofInt 64 n &&& BitVec.ofInt 64 1).toNat:Nat)=n%2;rw[a,IntKind.wrap_i64];omega
theorem wT(n:Nat)(w:World)(hn:n<=4611686018427387904):Calls prog 217 #[.int .i64 (n:Int)] w λe w'=>e=.returned (.bool (kU n))/\w=w':=by
 have H:Hid (∀b:Bool,(b=true↔128<=n/\n<=2048/\n%2=0)->b=kU n):=hid λb h=>by rw[kzk,aQ,h]
 have ha:=Cc (n:Int);go_enter func217,ntmps217;go_wp2_with fail
 all_goals
  go_ret;exact⟨kB (H.out _ (by simp;omega)),rfl⟩
def rR (p f t:Nat):Int:=if wB p f t=true then 0 else 8
theorem Cr(p f t:Nat)(w:World)(hp:p<=4611686018427387904)(hf:f<=4611686018427387904)(ht:t<=4611686018427387904):
 Calls prog 163 #[phV p f t] w λe w'=>e=.returned (.int .i64 (rR p f t))/\Below w.heap.size w w':=by
 have i:=hid (λW=>wT f W hf);have j:=hid (λW=>wT t W ht);have b:Hid (∀r:Int,r=(if (if p=4 then kU f&&(kU t&&decide (t<=f)) else if t≠0 then false else if p=3 then f==0||kU f else decide (p<3)&&f==0)=true then 0 else 8)->rR p f t=r):=hid λr h=>by rw[h];rfl
 have y:=(kqk w.heap.size w).alloc (kqb _) (.cells #[.int .i64 (p:Int),.int .i64 (f:Int),.int .i64 (t:Int)] 107);have c:=hid y;unfold phV;clear y;by_cases k:p=4
 .subst k;cases a:kU f
  .rw[a] at i;have d:=hid (b.out 8 (by rw[if_pos rfl,a];rfl));clear b j a;(try simp only[kqy] at c |-);go_enter func163,ntmps163;go_wp2_with fail;refine (i.out _).mono ?_;rintro e m ⟨rfl,rfl⟩;go_wp2;go_ret;exact⟨by rw[d.out];rfl,c.out⟩
  cases g:kU t
  .rw[a] at i;rw[g] at j;have d:=hid (b.out 8 (by rw[if_pos rfl,a,g];rfl));clear b a g;(try simp only[kqy] at c |-);go_enter func163,ntmps163;go_wp2_with fail;refine (i.out _).mono ?_;rintro e m ⟨rfl,rfl⟩;go_wp2_with fail;refine (j.out _).mono ?_;rintro e m ⟨rfl,rfl⟩;go_wp2;go_ret;exact⟨by rw[d.out];rfl,c.out⟩
  rw[a] at i;rw[g] at j;by_cases s:t<=f
  .have v:decide ((t:Int)<=(f:Int))=true:=by rw[kql];omega
   have l:decide (t<=f)=true:=by rw[kql];omega
   have d:=hid (b.out 0 (by rw[if_pos rfl,a,g,l];rfl));clear b a g s;(try simp only[kqy] at c |-);go_enter func163,ntmps163;go_wp2_with fail;refine (i.out _).mono ?_;rintro e m ⟨rfl,rfl⟩;go_wp2_with fail;refine (j.out _).mono ?_;rintro e m ⟨rfl,rfl⟩;go_wp2;go_ret;exact⟨by rw[d.out];rfl,c.out⟩
  have v:decide ((t:Int)<=(f:Int))=false:=by rw[kqc];omega
  have l:decide (t<=f)=false:=by rw[kqc];omega
  have d:=hid (b.out 8 (by rw[if_pos rfl,a,g,l];rfl));clear b a g s;(try simp only[kqy] at c |-);go_enter func163,ntmps163;go_wp2_with fail;refine (i.out _).mono ?_;rintro e m ⟨rfl,rfl⟩;go_wp2_with fail;refine (j.out _).mono ?_;rintro e m ⟨rfl,rfl⟩;go_wp2;go_ret;exact⟨by rw[d.out];rfl,c.out⟩
 have e4:((p:Int)==4)=false:=by rw[kqi];omega
 have e4n:(p==4)=false:=by rw[kqi];omega
 by_cases u:t=0
 .subst u;by_cases o:p=3
  .subst o;by_cases n:f=0
   .subst n;have d:=hid (b.out 0 (by simp));clear b i j k;(try simp only[kqy] at c |-);go_enter func163,ntmps163;go_wp2;go_ret;exact⟨by rw[d.out];rfl,c.out⟩
   have z:((f:Int)==0)=false:=by rw[kqi];omega
   have x:(f==0)=false:=by rw[kqi];omega
   cases a:kU f
   .rw[a] at i;have d:=hid (b.out 8 (by simp[a,n]));clear b j a k n;(try simp only[kqy] at c |-);go_enter func163,ntmps163;go_wp2_with fail;refine (i.out _).mono ?_;rintro e m ⟨rfl,rfl⟩;go_wp2;go_ret;exact⟨by rw[d.out];rfl,c.out⟩
   rw[a] at i;have d:=hid (b.out 0 (by simp[a]));clear b j a k n;(try simp only[kqy] at c |-);go_enter func163,ntmps163;go_wp2_with fail;refine (i.out _).mono ?_;rintro e m ⟨rfl,rfl⟩;go_wp2;go_ret;exact⟨by rw[d.out];rfl,c.out⟩
  have e3:((p:Int)==3)=false:=by rw[kqi];omega
  have e3n:(p==3)=false:=by rw[kqi];omega
  have p0:(0:Int)<=(p:Int):=by omega
  by_cases q:p<3
  .have v:decide ((p:Int)<3)=true:=by rw[kql];omega
   have l:decide (p<3)=true:=by rw[kql];omega
   by_cases n:f=0
   .subst n;have d:=hid (b.out 0 (by simp[k,o,q]));clear b i j k o q;(try simp only[kqy] at c |-);go_enter func163,ntmps163;go_wp2;go_ret;exact⟨by rw[d.out];rfl,c.out⟩
   have z:((f:Int)==0)=false:=by rw[kqi];omega
   have x:(f==0)=false:=by rw[kqi];omega
   have d:=hid (b.out 8 (by simp[k,o,q,n]));clear b i j k o q n;(try simp only[kqy] at c |-);go_enter func163,ntmps163;go_wp2;go_ret;exact⟨by rw[d.out];rfl,c.out⟩
  have v:decide ((p:Int)<3)=false:=by rw[kqc];omega
  have l:decide (p<3)=false:=by rw[kqc];omega
  have d:=hid (b.out 8 (by simp[k,o,q]));clear b i j k o q;(try simp only[kqy] at c |-);go_enter func163,ntmps163;go_wp2;go_ret;exact⟨by rw[d.out];rfl,c.out⟩
 have et:((t:Int) != 0)=true:=by rw[kqt];omega
 have etn:(t != 0)=true:=by rw[kqt];omega
 have d:=hid (b.out 8 (by rw[if_neg k,if_pos u];rfl));clear b i j k u;(try simp only[kqy] at c |-);go_enter func163,ntmps163;go_wp2;go_ret;exact⟨by rw[d.out];rfl,c.out⟩
def rY (ws:List Nat) (k:Nat):Array Value:=#[.int .i64 (if 0<k then (wd ws 16:Int) else 0),.int .i64 (if 1<k then (wd ws 17:Int) else 0),.int .i64 (if 2<k then (wd ws 18:Int) else 0)]
theorem wJ(ws:List Nat)(hk:k<3):(rY ws k).setIfInBounds k (.int .i64 (wd ws (16+k):Int))=rY ws (k+1):=by
 match k,hk with
 | 0,_=>rfl
 | 1,_=>rfl
 | 2,_=>rfl
theorem uq(ws:List Nat)(hk:3<=k):rY ws (k+1)=rY ws k:=by unfold rY;rw[if_pos (by omega),if_pos (by omega),if_pos (by omega),if_pos (by omega),if_pos (by omega),if_pos (by omega)]
theorem vk(ws:List Nat)(hk:k<3):∃u,(rY ws k)[k]? = some u:=by
 match k,hk with
 | 0,_=>exact⟨_,rfl⟩
 | 1,_=>exact⟨_,rfl⟩
 | 2,_=>exact⟨_,rfl⟩
def okTo (ws:List Nat) (k:Nat):Prop:=∀i,i<k->(i<3->wd ws (16+i)<=ws.length)/\(3<=i->wd ws (16+i)=0)
theorem yx(ws:List Nat):okTo ws 0:=λi h=>absurd h (by omega)
theorem yZ(h:okTo ws k)(h1:(k<3->wd ws (16+k)<=ws.length)/\(3<=k->wd ws (16+k)=0)):okTo ws (k+1):=λi hi=>by
 rcases kq6 i k with a|a
 .exact h i a
 .have:i=k:=by omega
  subst this;exact h1
theorem zm(h:okTo ws 8):iP ws=true:=by rw[aY];exact⟨⟨(h 0 (by omega)).1 (by omega),(h 1 (by omega)).1 (by omega),(h 2 (by omega)).1 (by omega)⟩,(h 3 (by omega)).2 (by omega),(h 4 (by omega)).2 (by omega),(h 5 (by omega)).2 (by omega),(h 6 (by omega)).2 (by omega),(h 7 (by omega)).2 (by omega)⟩
theorem vH(h:ak (ws.length:Int)=true)(h2:iP ws=false):cH ws=50/\prV ws=phV 0 0 0:=qx h (by rw[h2,kxt])
theorem Cf(h:ak (ws.length:Int)=true)(h2:rR (wd ws 16) (wd ws 17) (wd ws 18)≠0):cH ws=50/\prV ws=phV 0 0 0:=qx h (by
 unfold rR at h2;cases a:wB (wd ws 16) (wd ws 17) (wd ws 18) with
 | false=>rw[kjl]
 | true=>rw[a] at h2;exact absurd rfl h2)
theorem ww(h:ak (ws.length:Int)=true)(h1:iP ws=true)(h2:rR (wd ws 16) (wd ws 17) (wd ws 18)=0):cH ws=0/\prV ws=phV (wd ws 16) (wd ws 17) (wd ws 18):=lW h (by
 unfold rR at h2;cases a:wB (wd ws 16) (wd ws 17) (wd ws 18) with
 | true=>rw[h1];rfl
 | false=>rw[a] at h2;cases h2)
theorem aR{fn:Func}{p q:Tmp}(h:fn.results=#[.cell p 107,.tmp q])(tmps:Array Value){W:World}{g:Nat}{t:TypeId}{v0 v1 v2 u:Value}(hb:Bx W g t #[v0,v1,v2])(hp:tmps.getD p undef=.pointer (some ⟨g,0,none⟩))(hq:tmps.getD q undef=u):
 (results fn tmps).run prog W=.ok (.tuple #[.agg #[v0,v1,v2],u]) W:=by obtain⟨a,c,b,-⟩:=hb.c3;rw[kxl] at hp hq;simp[results,h,hp,hq,go_sem,a,c,b]
theorem EI(A:Option Addr)(ws:List Nat)(c n:Nat)(w:World)(hn:ws.length=n)(hm:n<=9223372036854775807)(hc:n<=c)(O:RdW w w.heap.size A ws)(ho:∀x∈ws,x<18446744073709551616):
 Calls prog 102 #[.slice A n c] w λe w'=>e=.returned (.tuple #[prV ws,.int .i64 (cH ws)])/\Below w.heap.size w w':=by
 subst hn;have HR:=hid O;have HO:=hid ho;clear O ho;have f:=Bx.new w 107 #[.int .i64 0,.int .i64 0,.int .i64 0];cases H:ak (ws.length:Int)
 .have HI:=hid (bJ H);have l:=hid (qy H);have K:=hid f;clear H f;go_enter func102,ntmps102;go_wp2_with fail;refine (aJ A ws.length c _ hm).mono ?_;rintro e w1 ⟨rfl,rfl⟩;rw[HI.out];go_wp2_with fail;refine kqr (v:=.tuple #[.agg #[.int .i64 0,.int .i64 0,.int .i64 0],.int .i64 8]) (aR results102 _ K.out rfl rfl) rfl ⟨by rw[l.out.1,l.out.2];rfl,(kqk _ _).alloc (kqb _) _⟩
 have HI:=hid (aW H);obtain⟨hb1,B,-⟩:=de ws H;have HS:=hid H;have K:=hid f;obtain⟨b,off,rfl,hb,-⟩:=RdW.at_ HR.out (show 0<ws.length by omega);have HC:Hid (∀k (h:k<8) (W:World),Below w.heap.size w W->W.cell? ⟨b,off+16+k,none⟩=some (.int .u64 (wd ws (16+k):Int))):=hid λk h W F=>by
  obtain⟨b',off',e',-,Z⟩:=RdW.at_ (Rd.below HR.out F) (show 16+k<ws.length by omega);cases e';rw[<-bI,<-kj3] at Z;exact Z
 have Fr:Hid (∀k,wd ws k<18446744073709551616):=hid (eX HO.out);have hc24:(24:Int)<=(c:Int):=by omega
 have hc16:((c:Int)==16)=false:=by rw[kqi];omega
 have hc16n:(c==16)=false:=by rw[kqi];omega
 have hne:¬ c=16:=by omega
 clear H f;go_enter func102,ntmps102;go_wp2_with fail;refine (aJ _ ws.length c _ hm).mono ?_;rintro e w1 ⟨rfl,rfl⟩;rw[HI.out];go_wp2_with fail;go_loopw [20] (λi wr=>∃k:Nat,k<=8/\i=.int .i64 k/\Hid (okTo ws k)/\Bx wr w.heap.size 107 #[.int .i64 0,.int .i64 0,.int .i64 0]/\Bx wr (w.heap.size+1) 226 (rY ws k)/\Below w.heap.size w wr) (λi _=>8-(intOf i).toNat)
 case atStart =>
  have x1:=Bx.new (w.alloc (.cells #[.int .i64 0,.int .i64 0,.int .i64 0] 107)) 226 #[.int .i64 0,.int .i64 0,.int .i64 0];rw[kqn] at x1;exact⟨0,kqx _,rfl,yx ws,K.out.alloc _,x1,((kqk _ _).alloc (kqb _) _).alloc (by simp) _⟩
 obtain⟨k,hk,rfl,S,f,q,F⟩:=hrel;have hz:=F.size;by_cases P:k<8
 .have Z:=HC.out k P _ F;have Eq:=Fr.out (16+k);have g:=hid (λh=>yZ S.out h);have j:=hid (λh=>vH HS.out (CG P h));have d:=hid (λh=>wJ ws (k:=k) h);have m:=hid (λh=>uq ws (k:=k) h);have o:=hid (λh=>vk ws (k:=k) h);obtain⟨x,M⟩:=xq (wd ws (16+k));rw[M] at Z Eq g j d;have hk1:(k:Int)<8:=by omega
  have hk0:(0:Int)<=(k:Int):=by omega
  have hx1:(0:Int)<=(x:Int):=by omega
  clear M;by_cases E:k<3
  .have Fo:decide ((k:Int)<3)=true:=by rw[kql];omega
   have R:decide (k<3)=true:=by rw[kql];omega
   obtain⟨u,hu⟩:=o.out E;by_cases G:x<=ws.length
   .have Fq:decide ((x:Int)<=(ws.length:Int))=true:=by rw[kql];omega
    have V:decide (x<=ws.length)=true:=by rw[kql];omega
    have HY:=hid (g.out ⟨λ_=>G,λh=>absurd h (by omega)⟩);have HZ:=hid (d.out E);have Y:=(q.cell k).trans hu;have X:=q.frozen k;have s:=hid f;have B1:=hid q;have hxw:IntKind.i64.wrap (x:Int)=(x:Int):=kqo _ (by omega);clear g j d m o f q hu G;go_wp2;go_roundw
    case rel=>exact⟨k+1,by omega,by go_num,HY.out,s.out.far (by simp) _,by rw[<-HZ.out];exact B1.out.set_ k _,F.setCell (by simp) _⟩
    case measure=>simp[intOf];omega
   have Fq:decide ((x:Int)<=(ws.length:Int))=false:=by rw[kqc];omega
   have V:decide (x<=ws.length)=false:=by rw[kqc];exact G
   have l:=hid (j.out (.inl ⟨E,by omega⟩));have s:=hid f;obtain⟨c0,Y,c2,f0,X,f2,J⟩:=f.c3;clear g j d m o f q hu G;go_wp2_with fail;refine kqr (v:=.tuple #[.agg #[.int .i64 0,.int .i64 0,.int .i64 0],.int .i64 50]) (aR results102 _ (((s.out.set_ 0 _).set_ 1 _).set_ 2 _) rfl rfl) rfl ⟨by rw[l.out.1,l.out.2];rfl,((F.setCell (by simp) _).setCell (by simp) _).setCell (by simp) _⟩
  have Fo:decide ((k:Int)<3)=false:=by rw[kqc];omega
  have R:decide (k<3)=false:=by rw[kqc];omega
  by_cases a:x=0
  .have Fp:((x:Int) != 0)=false:=by rw[kqp];omega
   have N:(x != 0)=false:=by rw[kqp];exact a
   have HY:=hid (g.out ⟨λh=>absurd h E,λ_=>a⟩);have HZ:=hid (m.out (by omega));have s:=hid f;have B1:=hid q;clear g j d m o f q a;go_wp2;go_roundw
   case rel=>exact⟨k+1,by omega,by go_num,HY.out,s.out,by rw[HZ.out];exact B1.out,F⟩
   case measure=>simp[intOf];omega
  have Fp:((x:Int) != 0)=true:=by rw[kqt];omega
  have N:(x != 0)=true:=by rw[kqt];exact a
  have l:=hid (j.out (.inr ⟨by omega,a⟩));have s:=hid f;obtain⟨c0,Y,c2,f0,X,f2,J⟩:=f.c3;clear g j d m o f q a;go_wp2_with fail;refine kqr (v:=.tuple #[.agg #[.int .i64 0,.int .i64 0,.int .i64 0],.int .i64 50]) (aR results102 _ (((s.out.set_ 0 _).set_ 1 _).set_ 2 _) rfl rfl) rfl ⟨by rw[l.out.1,l.out.2];rfl,((F.setCell (by simp) _).setCell (by simp) _).setCell (by simp) _⟩
 obtain rfl:k=8:=by omega
 have T:=hid (zm S.out);obtain⟨⟨l0,l1,l2⟩,-⟩:=(aY ws).1 T.out;have C:=hid (λW=>Cr (wd ws 16) (wd ws 17) (wd ws 18) W (by omega) (by omega) (by omega));have I:=hid (λh=>Cf HS.out h);have D:=hid (λh=>ww HS.out T.out h);have Q:Bx wr (w.heap.size+1) 226 #[.int .i64 (wd ws 16:Int),.int .i64 (wd ws 17:Int),.int .i64 (wd ws 18:Int)]:=q;obtain⟨c0,Y,c2,-⟩:=Q.c3;obtain⟨q0,q1,q2,f0,X,f2,J⟩:=f.c3;unfold phV at C D;obtain⟨x,M⟩:=xq (wd ws 16);obtain⟨y,hy⟩:=xq (wd ws 17);obtain⟨z,L⟩:=xq (wd ws 18);rw[M,hy,L] at C I D;rw[M] at c0;rw[hy] at Y;rw[L] at c2;have s:=hid f;have HB:=hid F;clear f q Q l0 l1 l2 M hy L;obtain⟨r,O⟩:=xq (rR x y z);rw[O] at C I D;clear O;go_wp2_with fail;refine (C.out _).mono ?_;rintro e w2 ⟨rfl,t⟩;rw[kqn] at t;have B:=ao t;have b3:=hid (s.out.up B J);have n3:=Bx.of_new t;obtain⟨q0,q1,q2,f0,X,f2,hgl2⟩:=b3.out.c3;obtain⟨n0,n1,n2,-⟩:=n3.c3;have U:=hid (HB.out.trans (B.mono HB.out.size));clear t B n3;by_cases p:r=0
 .have l:=hid (D.out p);subst p;go_wp2_with fail;refine kqr (v:=.tuple #[.agg #[.int .i64 (x:Int),.int .i64 (y:Int),.int .i64 (z:Int)],.int .i64 0]) (aR results102 _ (((b3.out.set_ 0 _).set_ 1 _).set_ 2 _) rfl rfl) rfl ⟨by rw[l.out.1,l.out.2],((U.out.setCell (by simp) _).setCell (by simp) _).setCell (by simp) _⟩
 have l:=hid (I.out p);have hrn:(r != 0)=true:=by rw[kqt];exact p
 clear p;go_wp2_with fail;refine kqr (v:=.tuple #[.agg #[.int .i64 0,.int .i64 0,.int .i64 0],.int .i64 50]) (aR results102 _ (((b3.out.set_ 0 _).set_ 1 _).set_ 2 _) rfl rfl) rfl ⟨by rw[l.out.1,l.out.2];rfl,((U.out.setCell (by simp) _).setCell (by simp) _).setCell (by simp) _⟩
def noAt (l:List Bk) (f:Nat) (k:Nat):Prop:=∀j,j<k->(gk l j).at_≠(f:Int)
theorem wH(l:List Bk)(f:Nat):noAt l f 0:=λj h=>absurd h (by omega)
theorem zj(h:noAt l f k)(h2:(gk l k).at_≠(f:Int)):noAt l f (k+1):=λj hj=>by
 rcases kq6 j k with a|a
 .exact h j a
 .have:j=k:=by omega
  subst this;exact h2
theorem bd_no(hs:ak (ws.length:Int)=true)(h:co ws 128≠0)(f:Nat):nn ws f=false:=by
 unfold nn;cases a:blocks ws 128 with
 | none=>rfl
 | some l=>exact absurd (ci hs (ia hs) a).1 h
theorem bd_at(hb:blocks ws 128=some l)(hk:k<l.length)(h:(gk l k).at_=(f:Int)):nn ws f=true:=by unfold nn;rw[hb];simp only[kje,kxn];refine .inl ⟨l[k],kqs hk,?_⟩;rw[bo l k hk] at h;rw[kqu];exact h
theorem bd_end(hb:blocks ws 128=some l)(h:noAt l f l.length):nn ws f=(f==ws.length):=by
 unfold nn;rw[hb];have:l.any (λb=>b.at_==(f:Int))=false:=by rw[kj0];intro b c;obtain⟨k,a,rfl⟩:=kqv c;have:=h k a;rw[bo l k a] at this;rw[kqu];exact this
 show (l.any (λb=>b.at_==(f:Int))||f==ws.length)=_;rw[this,Bool.false_or]
theorem uR(A:Option Addr)(ws:List Nat)(c n f:Nat)(w:World)(hn:ws.length=n)(hs:ak (n:Int)=true)(hr:RdW w w.heap.size A ws)(ho:∀x∈ws,x<18446744073709551616):
 Calls prog 103 #[.slice A n c,.int .i64 (f:Int)] w λe w'=>e=.returned (.bool (nn ws f))/\Below w.heap.size w w':=by
 subst hn;have F:=de ws hs;have z:=hid (lz A ws c ws.length 128 w rfl (by omega) hr ho);unfold pm at z;have m:=hid (λh=>bd_no hs h f);have g:Hid (co ws 128=0->blocks ws 128=some (aU ws 128)):=hid λh=>(zh h).2;have t:=gQ ws 128;obtain⟨r,q⟩:=xq (co ws 128);obtain⟨l,K⟩:=xq (aU ws 128);rw[q,K] at z g;rw[K] at t;rw[q] at m;clear q K hr ho hs F;by_cases j:r=0
 .subst j;have G:=hid (λk (h:k<l.length) W=>bd_at (g.out rfl) h W (f:=f));have I:=hid (λh=>bd_end (g.out rfl) (f:=f) h);clear m g;go_enter func103,ntmps103;go_wp2_with fail;refine z.out.mono ?_;rintro e H ⟨⟨X,U,rfl,v,-⟩,d⟩;have u:=d.size;have E:=hid v;clear v;go_wp2_with fail;go_loopw [18] (λi wr=>∃k:Nat,k<=l.length/\i=.int .i64 k/\Hid (noAt l f k)/\Below H.heap.size H wr) (λi _=>l.length-(intOf i).toNat)
  case atStart=>exact⟨0,kqx _,rfl,wH l f,kqk _ _⟩
  obtain⟨k,hk,rfl,P,y⟩:=hrel;have S:=y.size;by_cases p:k<l.length
  .obtain ⟨b,off,rfl,hbw,N,T,O,M,Q,R⟩:=RdB.at_ (E.out.below y) p;have C:=hid (λh=>zj P.out h);have B:=hid (λh=>G.out k p h);rw[bo l k p] at C B;obtain⟨x,L⟩:=xq (l[k]);rw[L] at N T O M Q R C B;obtain⟨D,xs,xk,xt,xm,xn⟩:=x;dsimp only at N T O M Q R C B;have hlm:(k:Int)<(l.length:Int):=by omega
   clear L;by_cases a:D=(f:Int)
   .have V:(D==(f:Int))=true:=by rw[kqu];exact a
    have o:=hid (B.out a);clear a;go_wp2;go_ret;exact⟨by rw[o.out];rfl,d.trans ((y.alloc S _).mono u)⟩
   have V:(D==(f:Int))=false:=by rw[kqi];exact a
   have o:=hid (C.out a);clear a;go_wp2;go_roundw
   case rel=>exact⟨k+1,by omega,by go_num,o.out,y.alloc S _⟩
   case measure=>simp[intOf];omega
  have o:=hid (I.out (by have:=P.out;rwa [show k=l.length by omega] at this));have s:((f:Int)==(ws.length:Int))=(f==ws.length):=by rw[kzk,kqu,kqu];omega
  have J:=hid s;clear s;go_wp2;go_ret;exact⟨by rw[o.out,<-J.out];rfl,d.trans (y.mono u)⟩
 have hn1:(r != 0)=true:=by rw[kqt];exact j
 have o:=hid (m.out j);clear j m g;go_enter func103,ntmps103;go_wp2_with fail;refine z.out.mono ?_;rintro e H ⟨⟨X,U,rfl,-,-⟩,d⟩;go_wp2;go_ret;exact⟨by rw[o.out];rfl,d⟩
theorem tT(h:cH ws=r)(h0:r≠0):cF ws=r/\lnV ws=phV 0 0 0:=by subst h;simp[cF,lnV,h0]
theorem At(h:cH ws=0)(h1:wd ws 16=3)(h2:wd ws 17≠0)(h3:nn ws (wd ws 17)=false):cF ws=50/\lnV ws=phV 0 0 0:=by simp[cF,lnV,h,h1,h2,h3]
theorem BJ(h:cH ws=0)(h3:wd ws 16=3->wd ws 17≠0->nn ws (wd ws 17)=true):cF ws=0/\lnV ws=phV (wd ws 16) (wd ws 17) (wd ws 18):=by
 have:cF ws=0:=by unfold cF;rw[if_pos h,if_neg];rintro ⟨a,b,c⟩;rw[h3 a b] at c;cases c
 simp[lnV,this]
theorem ui(A:Option Addr)(ws:List Nat)(c n:Nat)(w:World)(hn:ws.length=n)(hm:n<=9223372036854775807)(hc:n<=c)(D:RdW w w.heap.size A ws)(ho:∀x∈ws,x<18446744073709551616):
 Calls prog 55 #[.slice A n c] w λe w'=>e=.returned (.tuple #[lnV ws,.int .i64 (cF ws)])/\Below w.heap.size w w':=by
 subst hn;have HR:=hid D;have HO:=hid ho;clear D ho;have Y:=Bx.new w 107 #[.int .i64 0,.int .i64 0,.int .i64 0];cases K:ak (ws.length:Int)
 .have I:=hid (bJ K);have m:=hid (tT (qy K).1 (by omega));have l:=hid Y;clear K Y;go_enter func55,ntmps55;go_wp2_with fail;refine (aJ A ws.length c _ hm).mono ?_;rintro e k ⟨rfl,rfl⟩;rw[I.out];go_wp2_with fail;refine kqr (v:=.tuple #[.agg #[.int .i64 0,.int .i64 0,.int .i64 0],.int .i64 8]) (aR results55 _ l.out rfl rfl) rfl ⟨by rw[m.out.1,m.out.2];rfl,(kqk _ _).alloc (kqb _) _⟩
 have I:=hid (aW K);have HS:=hid K;have t:=hid (EI A ws c ws.length (w.alloc (.cells #[.int .i64 0,.int .i64 0,.int .i64 0] 107)) rfl hm hc ((HR.out.alloc (kqb _) _).more (by simp)) HO.out);rw[kqn] at t;have G:Hid (∀r,cH ws=r->r≠0->cF ws=r/\lnV ws=phV 0 0 0):=hid λr h h0=>tT h h0;have E:=qo ws;clear K Y;by_cases j:cH ws=0
 .have o:=hid (λh1 X h3=>At j h1 X h3);have f:=hid (λh1=>BJ j h1);obtain⟨g1,g2⟩:=lW HS.out (by have:=(cK j).2;rw[this.1,this.2];rfl);rw[g1,g2] at t;have u:=hid (λW (h:RdW W W.heap.size A ws)=>uR A ws c ws.length (wd ws 17) W rfl HS.out h HO.out);unfold phV at t f;obtain⟨x,Z⟩:=xq (wd ws 16);obtain⟨y,V⟩:=xq (wd ws 17);obtain⟨z,hz⟩:=xq (wd ws 18);obtain⟨bd,Q⟩:=xq (nn ws y);rw[Z,V,hz] at t f;rw[Z,V] at o;rw[V] at u;rw[Q] at u o f;clear j g1 g2 Z V hz Q G E;have R:∀(k:World),Below (w.heap.size+1) (w.alloc (.cells #[.int .i64 0,.int .i64 0,.int .i64 0] 107)) k->RdW (k.alloc (.cells #[.int .i64 (x:Int),.int .i64 (y:Int),.int .i64 (z:Int)] 107)) (k.alloc (.cells #[.int .i64 (x:Int),.int .i64 (y:Int),.int .i64 (z:Int)] 107)).heap.size A ws:=λk h=>by
   have X:=ao h;exact ((HR.out.up X X.size).alloc (kqb _) _).more (by simp)
  have l:=hid R;clear R;by_cases C:x=3
  .have e1:((x:Int)==3)=true:=by rw[kqu];omega
   have e1n:(x==3)=true:=by rw[kqu];exact C
   by_cases F:y=0
   .have e2:((y:Int) != 0)=false:=by rw[kqp];omega
    have e2n:(y != 0)=false:=by rw[kqp];exact F
    have m:=hid (f.out (λ_ h=>absurd F h));clear o f C F;go_enter func55,ntmps55;go_wp2_with fail;refine (aJ A ws.length c _ hm).mono ?_;rintro e k ⟨rfl,rfl⟩;rw[I.out];go_wp2_with fail;refine t.out.mono ?_;rintro e k ⟨rfl,a⟩;have s:=hid (l.out _ a);have g:=Bx.of_new a;have b:=ao a;have B:=hid g;have d:=hid b;obtain⟨L,O,M,N,P,J,q⟩:=g.c3;clear a b g;go_wp2_with fail;exact kqr (v:=.tuple #[.agg #[.int .i64 (x:Int),.int .i64 (y:Int),.int .i64 (z:Int)],.int .i64 0]) (aR results55 _ ((((B.out.set_ 0 _).set_ 1 _).set_ 2 _).alloc _) rfl rfl) rfl ⟨by rw[m.out.1,m.out.2],(((d.out.setCell (kqb _) _).setCell (kqb _) _).setCell (kqb _) _).alloc (by simp;exact d.out.size) _⟩
   have e2:((y:Int) != 0)=true:=by rw[kqt];omega
   have e2n:(y != 0)=true:=by rw[kqt];exact F
   cases bd
   .have m:=hid (o.out C F rfl);clear o f C F;go_enter func55,ntmps55;go_wp2_with fail;refine (aJ A ws.length c _ hm).mono ?_;rintro e k ⟨rfl,rfl⟩;rw[I.out];go_wp2_with fail;refine t.out.mono ?_;rintro e k ⟨rfl,a⟩;have s:=hid (l.out _ a);have g:=Bx.of_new a;have b:=ao a;have B:=hid g;have d:=hid b;obtain⟨L,O,M,N,P,J,q⟩:=g.c3;clear a b g;go_wp2_with fail;refine (u.out _ s.out).mono ?_;rintro e w2 ⟨rfl,i⟩;rw[kqn] at i;have T:=Bx.of_new i;have p:=ao i;have U:=hid (B.out.up p q);have H:=hid (d.out.trans (p.mono d.out.size));obtain⟨L,O,M,N,P,J,S⟩:=U.out.c3;obtain⟨n0,n1,n2',-⟩:=T.c3;clear i p T;go_wp2_with fail;exact kqr (v:=.tuple #[.agg #[.int .i64 0,.int .i64 0,.int .i64 0],.int .i64 50]) (aR results55 _ (((U.out.set_ 0 _).set_ 1 _).set_ 2 _) rfl rfl) rfl ⟨by rw[m.out.1,m.out.2];rfl,((H.out.setCell (kqb _) _).setCell (kqb _) _).setCell (kqb _) _⟩
   have m:=hid (f.out (λ_ _=>rfl));clear o f C F;go_enter func55,ntmps55;go_wp2_with fail;refine (aJ A ws.length c _ hm).mono ?_;rintro e k ⟨rfl,rfl⟩;rw[I.out];go_wp2_with fail;refine t.out.mono ?_;rintro e k ⟨rfl,a⟩;have s:=hid (l.out _ a);have g:=Bx.of_new a;have b:=ao a;have B:=hid g;have d:=hid b;obtain⟨L,O,M,N,P,J,q⟩:=g.c3;clear a b g;go_wp2_with fail;refine (u.out _ s.out).mono ?_;rintro e w2 ⟨rfl,i⟩;rw[kqn] at i;have T:=Bx.of_new i;have p:=ao i;have U:=hid (B.out.up p q);have H:=hid (d.out.trans (p.mono d.out.size));obtain⟨L,O,M,N,P,J,S⟩:=U.out.c3;obtain⟨n0,n1,n2',-⟩:=T.c3;clear i p T;go_wp2_with fail;exact kqr (v:=.tuple #[.agg #[.int .i64 (x:Int),.int .i64 (y:Int),.int .i64 (z:Int)],.int .i64 0]) (aR results55 _ (((U.out.set_ 0 _).set_ 1 _).set_ 2 _) rfl rfl) rfl ⟨by rw[m.out.1,m.out.2],((H.out.setCell (kqb _) _).setCell (kqb _) _).setCell (kqb _) _⟩
  have e1:((x:Int)==3)=false:=by rw[kqi];omega
  have e1n:(x==3)=false:=by rw[kqi];exact C
  have m:=hid (f.out (λh=>absurd h C));clear o f C;go_enter func55,ntmps55;go_wp2_with fail;refine (aJ A ws.length c _ hm).mono ?_;rintro e k ⟨rfl,rfl⟩;rw[I.out];go_wp2_with fail;refine t.out.mono ?_;rintro e k ⟨rfl,a⟩;have s:=hid (l.out _ a);have g:=Bx.of_new a;have b:=ao a;have B:=hid g;have d:=hid b;obtain⟨L,O,M,N,P,J,q⟩:=g.c3;clear a b g;go_wp2_with fail;exact kqr (v:=.tuple #[.agg #[.int .i64 (x:Int),.int .i64 (y:Int),.int .i64 (z:Int)],.int .i64 0]) (aR results55 _ ((((B.out.set_ 0 _).set_ 1 _).set_ 2 _).alloc _) rfl rfl) rfl ⟨by rw[m.out.1,m.out.2],(((d.out.setCell (kqb _) _).setCell (kqb _) _).setCell (kqb _) _).alloc (by simp;exact d.out.size) _⟩
 obtain⟨r,D⟩:=xq (cH ws);have m:=hid (G.out r D (by rw[<-D];exact j));have hv:prV ws=phV 0 0 0:=by simp[prV,j]
 rw[D,hv] at t;rw[D] at j E;have hn1:(r != 0)=true:=by rw[kqt];exact j
 unfold phV at t;have l:Hid (∀k:World,Below (w.heap.size+1) (w.alloc (.cells #[.int .i64 0,.int .i64 0,.int .i64 0] 107)) k->True):=hid λ_ _=>trivial;clear j D G hv;go_enter func55,ntmps55;go_wp2_with fail;refine (aJ A ws.length c _ hm).mono ?_;rintro e k ⟨rfl,rfl⟩;rw[I.out];go_wp2_with fail;refine t.out.mono ?_;rintro e k ⟨rfl,a⟩;have s:=hid (l.out _ a);have g:=Bx.of_new a;have b:=ao a;have B:=hid g;have d:=hid b;obtain⟨L,O,M,N,P,J,q⟩:=g.c3;clear a b g;go_wp2_with fail;exact kqr (v:=.tuple #[.agg #[.int .i64 0,.int .i64 0,.int .i64 0],.int .i64 r]) (aR results55 _ ((((B.out.set_ 0 _).set_ 1 _).set_ 2 _).alloc _) rfl rfl) rfl ⟨by rw[m.out.1,m.out.2];rfl,(((d.out.setCell (kqb _) _).setCell (kqb _) _).setCell (kqb _) _).alloc (by simp;exact d.out.size) _⟩
theorem ET(h:ay (wd ws i)=false):lR ws i=false:=by unfold lR;rw[h,kxt]
theorem Bm(h:ay (wd ws i)=true):lR ws i=((ah (wd ws i)).kind==1&&(!(ah (wd ws i)).mark&&db ws (ah (wd ws i)))):=by unfold lR;rw[h,kzz]
theorem DJ{x:Nat}(h:ay x=true)(hk:(ah x).kind=1):(ah x).typ<8:=by unfold ay at h;simp only[kqw] at h;have:=(bj _).1 h.1;omega
theorem EB(A:Option Addr)(ws:List Nat)(c n t:Nat)(w:World)(hn:ws.length=n)(hm:n<=1000000)(h2:256<=n)(ht:t<=n)(hr:RdW w w.heap.size A ws)(ho:∀x∈ws,x<18446744073709551616):
 Calls prog 160 #[.slice A n c,.int .i64 (t:Int)] w λe w'=>e=.returned (.bool (mvd ws 128 t))/\Below w.heap.size w w':=by
 subst hn;have HR:=hid hr;have Fr:Hid (∀k,wd ws k<18446744073709551616):=hid (eX ho);obtain⟨b,F,rfl,hb,-⟩:=RdW.at_ hr (show 0<ws.length by omega);have Z:Hid (∀k (h:k<ws.length) (W:World),Below w.heap.size w W->W.cell? ⟨b,F+k,none⟩=some (.int .u64 (wd ws k:Int))):=hid λk h W T=>by
  obtain⟨b',off',e',-,h0⟩:=RdW.at_ (Rd.below HR.out T) h;cases e';rw[<-bI] at h0;exact h0
 have Gp:=hid (λxa xs D (t:Nat) xm xn=>tV ws xa xs D t xm xn);clear hr ho;obtain⟨V,hV⟩:=xq (mvd ws 128 t);have HV:=hid hV;rw[hV];clear hV;go_enter func160,ntmps160;go_wp2_with fail;go_loopw [5] (λa wr=>∃i:Nat,128<=i/\i<=1000020/\a=.int .i64 i/\Hid (V=mvd ws i t)/\Below w.heap.size w wr) (λa _=>t-(intOf a).toNat)
 case atStart=>exact⟨128,by omega,by omega,rfl,hid HV.out.symm,kqk _ _⟩
 obtain⟨i,hi,hi2,rfl,HI,T⟩:=hrel;have hz:=T.size;by_cases L:i<t
 .have o:=hid (λh=>pU (ws:=ws) (t:=t) L h);have R:=hid (λh=>jC (ws:=ws) (t:=t) L h);have O:=hid (λh=>ET (ws:=ws) (i:=i) h);have M:=hid (λh=>Bm (ws:=ws) (i:=i) h);have S:=hid (λh hk=>DJ (x:=wd ws i) h hk);have g:=hid (λW=>mQ (wd ws i) W (Fr.out i));have p0:=Z.out i (by omega) _ T;have hit:(i:Int)<(t:Int):=by omega
  have hi0:(0:Int)<=(i:Int):=by omega
  have hin:(i:Int)<(ws.length:Int):=by omega
  have E:Hid (szAt ws i=(ah (wd ws i)).size.toNat):=hid rfl;have K:Hid (0<=(ah (wd ws i)).size/\(ah (wd ws i)).size<=65535/\0<=(ah (wd ws i)).typ):=hid (by
   have h1:wd ws i/65536%65536<65536:=kz1 _ (by omega);unfold ah;dsimp only;omega)
  have Gj:=hid (λh=>jR (ws:=ws) (i:=i) h);obtain⟨x,hx⟩:=xq (wd ws i);rw[hx] at p0 O M S g E K;clear hx;cases G:ay x
  .rw[(lx G).1,(lx G).2] at g;unfold lG Bk.val at g;dsimp only at g;have C:=hid (HI.out.trans (o.out (O.out G)));clear G o R O M S;go_wp2_with fail;refine (g.out _).mono ?_;rintro e s ⟨rfl,l⟩;have f:=T.trans (l.mono hz);go_wp2;go_ret;exact⟨by rw[C.out];rfl,f.alloc f.size _⟩
  have HSO:=hid G;rw[(kr G).1,(kr G).2] at g;have d:=hid (M.out G);have v:=hid (λhk=>S.out G hk);clear G O M S;obtain⟨y,hy⟩:=xq (ah x);have Fz:y.at_=0/\y.next=0:=by rw[<-hy];exact⟨rfl,rfl⟩
  rw[hy] at g d v E K;clear hy;obtain⟨xa,xs,D,xt,xm,xn⟩:=y;dsimp only at Fz d v E K;obtain⟨rfl,rfl⟩:=Fz;unfold Bk.val at g;dsimp only at g;by_cases q:D=1
  .have ek:(D != 1)=false:=by rw[kqp];exact q
   have Y:(D==1)=true:=by rw[kqu];exact q
   have ht8:=v.out q;obtain⟨r1,r2,r3⟩:=K.out;obtain⟨u,rfl⟩:=kq2 r3;obtain⟨sz,rfl⟩:=kq2 r1;rw[kqj] at E;rw[Y,kzz] at d;clear q v r1 r3;cases xm
   .rw[kky,kzz,Gp.out] at d;have Gf:=Fr.out (96+2*u);have Gc:=Fr.out (96+2*u+1);have HC:=hid (λW=>py (wd ws (96+2*u)) (wd ws (96+2*u+1)) W Gf Gc);have HK:=hid (lU (wd ws (96+2*u)) (wd ws (96+2*u+1)));have Fo:=jA (wd ws (96+2*u)) (wd ws (96+2*u+1));have N:=hid (mz (wd ws (96+2*u)) (wd ws (96+2*u+1)));have Fy:=hid (Z.out (96+2*u) (by omega));have Ft:=hid (Z.out (96+2*u+1) (by omega));obtain⟨H,Fv⟩:=xq (wd ws (96+2*u));obtain⟨I,Fw⟩:=xq (wd ws (96+2*u+1));rw[Fv] at Fy HC HK N Fo d;rw[Fw] at Ft HC HK N Fo d;clear Fv Fw Gf Gc;have t0:(0:Int)<=(u:Int):=by omega
    have s:IntKind.i64.wrap (2*(u:Int))=2*(u:Int):=kqo _ (by omega);have w2:IntKind.i64.wrap (96+2*(u:Int))=96+2*(u:Int):=kqo _ (by omega);have w3:IntKind.i64.wrap (96+2*(u:Int)+1)=96+2*(u:Int)+1:=kqo _ (by omega);have i1:(0:Int)<=96+2*(u:Int):=by omega
    have i2:(96:Int)+2*(u:Int)<(ws.length:Int):=by omega
    have i3:(0:Int)<=96+2*(u:Int)+1:=by omega
    have i4:(96:Int)+2*(u:Int)+1<(ws.length:Int):=by omega
    have n1:((96:Int)+2*(u:Int)).toNat=96+2*u:=by omega
    have n2:((96:Int)+2*(u:Int)+1).toNat=96+2*u+1:=by omega
    go_wp2_with fail;refine (g.out _).mono ?_;rintro e s ⟨rfl,l⟩;have f:=T.trans (l.mono hz);have B:=f.alloc f.size (.cells #[.int .i64 0,.int .i64 (sz:Int),.int .i64 D,.int .i64 (u:Int),.bool false,.int .u64 ((0:Nat):Int)] 55);have bx:=Bx.new s 55 #[.int .i64 0,.int .i64 (sz:Int),.int .i64 D,.int .i64 (u:Int),.bool false,.int .u64 ((0:Nat):Int)];have Fp:(s.alloc (.cells #[.int .i64 0,.int .i64 (sz:Int),.int .i64 D,.int .i64 (u:Int),.bool false,.int .u64 ((0:Nat):Int)] 55)).heap.size=s.heap.size+1:=by simp
    have hw1:=f.size;simp only[kqy] at bx B Fp;clear p0 l f;go_wp2_with fail;obtain⟨W0,Fx⟩:∃W0,s.alloc (.cells #[.int .i64 0,.int .i64 (sz:Int),.int .i64 D,.int .i64 (u:Int),.bool false,.int .u64 0] 55)=W0:=⟨_,rfl⟩;rw[Fx] at bx B Fp |-;clear Fx;have h0:=Fy.out _ B;have h1:=Ft.out _ B;have b3:W0.cell? ⟨s.heap.size,3,none⟩=some (.int .i64 (u:Int)):=bx.cell 3;have Ge:b<W0.heap.size:=by omega
    have Fs:s.heap.size<W0.heap.size:=by omega
    have BX:=hid bx;have Gk:=hid B;clear bx B Fp
    go_region_held3 (λX:World=>X.cell? ⟨b,F+(96+2*u),none⟩=some (.int .u64 (H:Int))/\X.cell? ⟨b,F+(96+2*u+1),none⟩=some (.int .u64 (I:Int))/\X.cell? ⟨s.heap.size,3,none⟩=some (.int .i64 (u:Int))) (go_keep)
     (first | (go_at_call 117;refine (HC.out _).mono ?_;rintro e w5 ⟨⟨A1,c1,rfl,Gh,Gi⟩,Q⟩;have m0:=(Q.cell (p:=⟨b,F+(96+2*u),none⟩) Ge).trans h0;have m1:=(Q.cell (p:=⟨b,F+(96+2*u+1),none⟩) Ge).trans h1;have m2:=(Q.cell (p:=⟨s.heap.size,3,none⟩) Fs).trans b3;have Gl:=hid Gh;have Gb:=hid Q;clear Gh Gi))
    have U:=r6 A1 (bc H I) c1 (bc H I).length w5.heap.size w5 rfl (by omega) Gl.out;have Fu:kSz (bc H I)=aX (bc H I).length:=by simp[kSz,N.out]
    rw[N.out,Fu] at U;have j:=hid U;have c1x:w5.cell? ⟨s.heap.size,1,none⟩=some (.int .i64 (sz:Int)):=(Gb.out.cell (p:=⟨s.heap.size,1,none⟩) Fs).trans (BX.out.cell 1);have Eq:=hid (Gk.out.trans ((kqk _ _).drew.trans (Gb.out.mono (by show _<=W0.heap.size;omega))));obtain⟨m,Gg⟩:=xq ((bc H I).length);rw[Gg] at d j Fo |-;have Gn:aX m<=10:=by unfold aX;omega
    obtain⟨z,Ga⟩:=xq (aX m);rw[Ga] at j d Gn;have P:Hid (ei H I=if bE H I=true then 0 else 50):=hid rfl;obtain⟨r,hr⟩:=xq (ei H I);obtain⟨ok,Gd⟩:=xq (bE H I);rw[hr] at P HK |-;rw[Gd] at P d HK;clear hr Gd U Fu Gg Ga m0 m1 m2 h0 h1 b3;cases ok
    .obtain rfl:r=50:=P.out;have C:=hid (HI.out.trans (o.out (by rw[d.out,kxt])));go_wp2_with fail;refine j.out.mono ?_;rintro e w6 ⟨rfl,rfl⟩;go_wp2;go_ret;exact⟨by rw[C.out];rfl,Eq.out⟩
    obtain rfl:r=0:=P.out;rw[kzz] at d;by_cases J:sz=z
    .have ez:((sz:Int) != (z:Int))=false:=by rw[kqp];omega
     have ezn:(sz != z)=false:=by rw[kqp];exact J
     have Fq:lR ws i=true:=by rw[d.out,kqu];omega
     have C:=hid (HI.out.trans (R.out Fq));obtain⟨s2,-,s10⟩:=Gj.out Fq;rw[E.out] at C s2 s10;have hwr:IntKind.i64.wrap ((i:Int)+(sz:Int))=(i:Int)+(sz:Int):=kqo _ (by omega);clear J Fq;go_wp2_with fail;refine j.out.mono ?_;rintro e w6 ⟨rfl,rfl⟩;go_wp2;go_roundw
     case rel=>exact⟨i+sz,by omega,by omega,by rw[kx1],C.out,Eq.out⟩
     case measure=>simp[intOf];omega
    have ez:((sz:Int) != (z:Int))=true:=by rw[kqt];omega
    have ezn:(sz != z)=true:=by rw[kqt];exact J
    have C:=hid (HI.out.trans (o.out (by rw[d.out,kqi];omega)));clear J;go_wp2_with fail;refine j.out.mono ?_;rintro e w6 ⟨rfl,rfl⟩;go_wp2;go_ret;exact⟨by rw[C.out];rfl,Eq.out⟩
   rw[kvd,kxt] at d;have C:=hid (HI.out.trans (o.out d.out));clear d o R;go_wp2_with fail;refine (g.out _).mono ?_;rintro e s ⟨rfl,l⟩;have f:=T.trans (l.mono hz);go_wp2;go_ret;exact⟨by rw[C.out];rfl,f.alloc f.size _⟩
  have ek:(D != 1)=true:=by rw[kqt];exact q
  have Y:(D==1)=false:=by rw[kqi];exact q
  rw[Y,kxt] at d;have C:=hid (HI.out.trans (o.out d.out));clear d o R q;go_wp2_with fail;refine (g.out _).mono ?_;rintro e s ⟨rfl,l⟩;have f:=T.trans (l.mono hz);go_wp2;go_ret;exact⟨by rw[C.out];rfl,f.alloc f.size _⟩
 have HE:=hid (HI.out.trans (iU (ws:=ws) (i:=i) (t:=t) (by omega)));have hdl:decide ((i:Int)<(t:Int))=false:=by rw[kqc];omega
 have hdln:decide (i<t)=false:=by rw[kqc];exact L
 have Gm:Hid (((i:Int)==(t:Int))=(i==t)):=hid (by rw[kzk,kqu,kqu];omega);clear L;go_wp2;go_ret;exact⟨by rw[HE.out,<-Gm.out];rfl,T⟩
theorem AM(h:cF ws=r)(h0:r≠0):aw ws=r:=by subst h;simp[aw,h0]
theorem lnV_no(h0:cF ws≠0):lnV ws=phV 0 0 0:=by simp[lnV,h0]
theorem Ax(h:cF ws=0)(h4:wd ws 16=4)(hm:mvd ws 128 (wd ws 18)=false):aw ws=50:=by simp[aw,h,h4,hm]
theorem AA(h:cF ws=0)(h4:wd ws 16=4)(hm:mvd ws 128 (wd ws 18)=true):aw ws=bi ws (wd ws 17:Nat) (wd ws 18:Nat):=by simp[aw,h,h4,hm]
theorem AX(h:cF ws=0)(h3:wd ws 16=3):aw ws=bi ws 128 128:=by simp[aw,h,h3]
theorem Al(h:cF ws=0)(h3:wd ws 16<3):aw ws=ag ws:=by unfold aw;rw[if_pos h,if_neg (by omega),if_neg (by omega)]
theorem uj(A:Option Addr)(ws:List Nat)(c n:Nat)(w:World)(hn:ws.length=n)(hm:n<=9223372036854775807)(hc:n<=c)(J:RdW w w.heap.size A ws)(ho:∀x∈ws,x<18446744073709551616):
 Calls prog 101 #[.slice A n c] w λe w'=>e=.returned (.tuple #[lnV ws,.int .i64 (aw ws)])/\Below w.heap.size w w':=by
 subst hn;have HR:=hid J;have HO:=hid ho;clear J ho;have b0:=Bx.new w 107 #[.int .i64 0,.int .i64 0,.int .i64 0];have Z:=hid (ui A ws c ws.length (w.alloc (.cells #[.int .i64 0,.int .i64 0,.int .i64 0] 107)) rfl hm hc ((HR.out.alloc (kqb _) _).more (by simp)) HO.out);rw[kqn] at Z;by_cases h0:cF ws=0
 .obtain ⟨h1,h2⟩:=dt h0;obtain⟨hs,h3,h4⟩:=cK h1;obtain⟨⟨l0,l1,l2⟩,-⟩:=(aY ws).1 h3;have Ga:=de ws hs;have Fv:lnV ws=phV (wd ws 16) (wd ws 17) (wd ws 18):=by simp[lnV,h0]
  have Gb:wd ws 16<=4:=by rcases (b8 _ _ _).1 h4 with h|h|h<;>omega
  have Fq:=hid (λW (h:RdW W W.heap.size A ws)=>EB A ws c ws.length (wd ws 18) W rfl (by omega) (by omega) l2 h HO.out);have Fy:=hid (λ(f s:Int) hf hs W (h:RdW W W.heap.size A ws)=>ph A ws c ws.length f s W rfl hm hf hs h HO.out);have Fw:=hid (λW (h:RdW W W.heap.size A ws)=>l9 A ws c ws.length W rfl hm h HO.out);have Fs:=hid h0;have O:=hid (λh4 hm=>Ax Fs.out h4 hm);have L:=hid (λh4 hm=>AA Fs.out h4 hm);have Eq:=hid (λh3=>AX Fs.out h3);have V:=hid (λh3=>Al Fs.out h3);have Q:Hid (∀t:World,Below w.heap.size w t->RdW (t.alloc (.cells #[.int .i64 (wd ws 16:Int),.int .i64 (wd ws 17:Int),.int .i64 (wd ws 18:Int)] 107)) (t.alloc (.cells #[.int .i64 (wd ws 16:Int),.int .i64 (wd ws 17:Int),.int .i64 (wd ws 18:Int)] 107)).heap.size A ws):=hid λt h2=>((HR.out.up h2 h2.size).alloc (kqb _) _).more (by simp);rw[h0,Fv] at Z;rw[Fv];unfold phV at Z |-;have hlen2:ws.length<=2048:=Ga.2.1;clear h0 h1 h2 hs h3 h4 Fv b0 Ga;obtain⟨x,hx⟩:=xq (wd ws 16);obtain⟨y,hy⟩:=xq (wd ws 17);obtain⟨z,hz⟩:=xq (wd ws 18);rw[hx] at Gb;rw[hx,hy,hz] at Z Q |-;rw[hx,hz] at O;rw[hx,hy,hz] at L;rw[hx] at Eq V;rw[hz] at Fq l2;rw[hy] at l1;clear hx hy hz l0;by_cases x4:x=4
  .have e4:((x:Int)==4)=true:=by rw[kqu];omega
   have e4n:(x==4)=true:=by rw[kqu];exact x4
   obtain⟨m,Fu⟩:=xq (mvd ws 128 z);rw[Fu] at Fq O L;cases m
   .have K:=hid (O.out x4 rfl);clear O L Eq V x4 Fu;go_enter func101,ntmps101;go_wp2_with fail;refine Z.out.mono ?_;rintro e t ⟨rfl,b⟩;have d:=ao b;have i:=hid (Q.out _ d);have G:=Bx.of_new b;have B1:=hid G;have j:=hid d;obtain⟨q0,Y,q2,U,f1,T,H⟩:=G.c3;clear b d G;go_wp2_with fail;have D:=Bx.new t 107 #[.int .i64 (x:Int),.int .i64 (y:Int),.int .i64 (z:Int)];have g:=j.out.alloc j.out.size (.cells #[.int .i64 (x:Int),.int .i64 (y:Int),.int .i64 (z:Int)] 107);have a:=B1.out.alloc (.cells #[.int .i64 (x:Int),.int .i64 (y:Int),.int .i64 (z:Int)] 107);obtain⟨o,C⟩:∃o,t.alloc (.cells #[.int .i64 (x:Int),.int .i64 (y:Int),.int .i64 (z:Int)] 107)=o:=⟨_,rfl⟩;rw[C] at D g a i |-;clear C q0 Y q2 U f1 T;have M:=D.lt;have Ft:=a.lt;obtain⟨p0,p1,p2,-⟩:=D.c3;have BW:=hid D;have u:=hid g;have F:=hid a;clear D g a;go_quiet (fail);go_wp2_with fail;refine (Fq.out _ (show RdW (o.drewN _) (o.drewN _).heap.size A ws from i.out)).mono ?_;rintro e w2 ⟨rfl,Fp⟩;have l:=(az (kqk o.heap.size o) _).trans Fp;have BW2:=hid (BW.out.up l BW.out.lt);have Fo:=hid (F.out.up l F.out.lt);have Fr:=hid (u.out.trans (l.mono u.out.size));have Fz:=hid (i.out.up l l.size);obtain⟨p0,p1,p2,-⟩:=BW2.out.c3
    obtain⟨q0,Y,q2,U,f1,T,H⟩:=Fo.out.c3;clear Fp l;go_wp2_with fail;exact kqr (v:=.tuple #[.agg #[.int .i64 (x:Int),.int .i64 (y:Int),.int .i64 (z:Int)],.int .i64 50]) (aR results101 _ (((Fo.out.set_ 0 _).set_ 1 _).set_ 2 _) rfl rfl) rfl ⟨by rw[K.out],((Fr.out.setCell (kqb _) _).setCell (kqb _) _).setCell (kqb _) _⟩
   have K:=hid (L.out x4 rfl);have P:=hid (λW h=>Fy.out (y:Int) (z:Int) (by omega) (by omega) W h);unfold vX at P;obtain⟨r,J⟩:∃r,bi ws (y:Int) (z:Int)=r:=⟨_,rfl⟩;obtain⟨q,hq⟩:∃q,gj ws (y:Int) (z:Int)=q:=⟨_,rfl⟩;rw[J,hq] at P;rw[J] at K;clear O L Eq V x4 Fu J hq;go_enter func101,ntmps101;go_wp2_with fail;refine Z.out.mono ?_;rintro e t ⟨rfl,b⟩;have d:=ao b;have i:=hid (Q.out _ d);have G:=Bx.of_new b;have B1:=hid G;have j:=hid d;obtain⟨q0,Y,q2,U,f1,T,H⟩:=G.c3;clear b d G;go_wp2_with fail;have D:=Bx.new t 107 #[.int .i64 (x:Int),.int .i64 (y:Int),.int .i64 (z:Int)];have g:=j.out.alloc j.out.size (.cells #[.int .i64 (x:Int),.int .i64 (y:Int),.int .i64 (z:Int)] 107);have a:=B1.out.alloc (.cells #[.int .i64 (x:Int),.int .i64 (y:Int),.int .i64 (z:Int)] 107);obtain⟨o,C⟩:∃o,t.alloc (.cells #[.int .i64 (x:Int),.int .i64 (y:Int),.int .i64 (z:Int)] 107)=o:=⟨_,rfl⟩;rw[C] at D g a i |-;clear C q0 Y q2 U f1 T;have M:=D.lt;have Ft:=a.lt;obtain⟨p0,p1,p2,-⟩:=D.c3;have BW:=hid D;have u:=hid g;have F:=hid a;clear D g a;go_quiet (fail);go_wp2_with fail;refine (Fq.out _ (show RdW (o.drewN _) (o.drewN _).heap.size A ws from i.out)).mono ?_;rintro e w2 ⟨rfl,Fp⟩
   have l:=(az (kqk o.heap.size o) _).trans Fp;have BW2:=hid (BW.out.up l BW.out.lt);have Fo:=hid (F.out.up l F.out.lt);have Fr:=hid (u.out.trans (l.mono u.out.size));have Fz:=hid (i.out.up l l.size);obtain⟨p0,p1,p2,-⟩:=BW2.out.c3;obtain⟨q0,Y,q2,U,f1,T,H⟩:=Fo.out.c3;clear Fp l;go_wp2_with fail;refine (P.out _ Fz.out).mono ?_;rintro e w3 ⟨⟨A1,c1,rfl,-,-⟩,B⟩;have k:=(kqk w2.heap.size w2).trans B;have R:=hid (BW2.out.up k BW2.out.lt);have E:=hid (Fo.out.up k Fo.out.lt);have N:=hid (Fr.out.trans (k.mono Fr.out.size));obtain⟨p0,p1,p2,-⟩:=R.out.c3;obtain⟨q0,Y,q2,U,f1,T,H⟩:=E.out.c3;clear B k;by_cases S:r=0
   .subst S;go_wp2_with fail;exact kqr (v:=.tuple #[.agg #[.int .i64 (x:Int),.int .i64 (y:Int),.int .i64 (z:Int)],.int .i64 0]) (aR results101 _ (((E.out.set_ 0 _).set_ 1 _).set_ 2 _) rfl rfl) rfl ⟨by rw[K.out],((N.out.setCell (kqb _) _).setCell (kqb _) _).setCell (kqb _) _⟩
   have Fx:(r != 0)=true:=by rw[kqt];exact S
   clear S;go_wp2_with fail;exact kqr (v:=.tuple #[.agg #[.int .i64 (x:Int),.int .i64 (y:Int),.int .i64 (z:Int)],.int .i64 r]) (aR results101 _ (((E.out.set_ 0 _).set_ 1 _).set_ 2 _) rfl rfl) rfl ⟨by rw[K.out],((N.out.setCell (kqb _) _).setCell (kqb _) _).setCell (kqb _) _⟩
  have e4:((x:Int)==4)=false:=by rw[kqi];omega
  have e4n:(x==4)=false:=by rw[kqi];exact x4
  by_cases x3:x=3
  .have e3:((x:Int)==3)=true:=by rw[kqu];omega
   have e3n:(x==3)=true:=by rw[kqu];exact x3
   have K:=hid (Eq.out x3);have P:=hid (λW h=>Fy.out 128 128 (by omega) (by omega) W h);unfold vX at P;obtain⟨r,J⟩:=xq (bi ws 128 128);obtain⟨q,hq⟩:=xq (gj ws 128 128);rw[J,hq] at P;rw[J] at K;clear O L Eq V x4 x3 J hq;go_enter func101,ntmps101;go_wp2_with fail;refine Z.out.mono ?_;rintro e t ⟨rfl,b⟩;have d:=ao b;have i:=hid (Q.out _ d);have G:=Bx.of_new b;have B1:=hid G;have j:=hid d;obtain⟨q0,Y,q2,U,f1,T,H⟩:=G.c3;clear b d G;go_wp2_with fail;have D:=Bx.new t 107 #[.int .i64 (x:Int),.int .i64 (y:Int),.int .i64 (z:Int)];have g:=j.out.alloc j.out.size (.cells #[.int .i64 (x:Int),.int .i64 (y:Int),.int .i64 (z:Int)] 107);have a:=B1.out.alloc (.cells #[.int .i64 (x:Int),.int .i64 (y:Int),.int .i64 (z:Int)] 107);obtain⟨o,C⟩:∃o,t.alloc (.cells #[.int .i64 (x:Int),.int .i64 (y:Int),.int .i64 (z:Int)] 107)=o:=⟨_,rfl⟩;rw[C] at D g a i |-;clear C q0 Y q2 U f1 T;have M:=D.lt;have Ft:=a.lt;obtain⟨p0,p1,p2,-⟩:=D.c3;have BW:=hid D;have u:=hid g;have F:=hid a;clear D g a;refine (P.out _ i.out).mono ?_;rintro e w3 ⟨⟨A1,c1,rfl,-,-⟩,B⟩;have k:=(kqk o.heap.size o).trans B;have R:=hid (BW.out.up k BW.out.lt);have E:=hid (F.out.up k F.out.lt);have N:=hid (u.out.trans (k.mono u.out.size));obtain⟨p0,p1,p2,-⟩:=R.out.c3;obtain⟨q0,Y,q2,U,f1,T,H⟩:=E.out.c3;clear B k;by_cases S:r=0
   .subst S;go_wp2_with fail;exact kqr (v:=.tuple #[.agg #[.int .i64 (x:Int),.int .i64 (y:Int),.int .i64 (z:Int)],.int .i64 0]) (aR results101 _ (((E.out.set_ 0 _).set_ 1 _).set_ 2 _) rfl rfl) rfl ⟨by rw[K.out],((N.out.setCell (kqb _) _).setCell (kqb _) _).setCell (kqb _) _⟩
   have Fx:(r != 0)=true:=by rw[kqt];exact S
   clear S;go_wp2_with fail;exact kqr (v:=.tuple #[.agg #[.int .i64 (x:Int),.int .i64 (y:Int),.int .i64 (z:Int)],.int .i64 r]) (aR results101 _ (((E.out.set_ 0 _).set_ 1 _).set_ 2 _) rfl rfl) rfl ⟨by rw[K.out],((N.out.setCell (kqb _) _).setCell (kqb _) _).setCell (kqb _) _⟩
  have e3:((x:Int)==3)=false:=by rw[kqi];omega
  have e3n:(x==3)=false:=by rw[kqi];exact x3
  have K:=hid (V.out (by omega));obtain⟨r,J⟩:=xq (ag ws);rw[J] at Fw K;clear O L Eq V x4 x3 J;go_enter func101,ntmps101;go_wp2_with fail;refine Z.out.mono ?_;rintro e t ⟨rfl,b⟩;have d:=ao b;have i:=hid (Q.out _ d);have G:=Bx.of_new b;have B1:=hid G;have j:=hid d;obtain⟨q0,Y,q2,U,f1,T,H⟩:=G.c3;clear b d G;go_wp2_with fail;have D:=Bx.new t 107 #[.int .i64 (x:Int),.int .i64 (y:Int),.int .i64 (z:Int)];have g:=j.out.alloc j.out.size (.cells #[.int .i64 (x:Int),.int .i64 (y:Int),.int .i64 (z:Int)] 107);have a:=B1.out.alloc (.cells #[.int .i64 (x:Int),.int .i64 (y:Int),.int .i64 (z:Int)] 107);obtain⟨o,C⟩:∃o,t.alloc (.cells #[.int .i64 (x:Int),.int .i64 (y:Int),.int .i64 (z:Int)] 107)=o:=⟨_,rfl⟩;rw[C] at D g a i |-;clear C q0 Y q2 U f1 T;have M:=D.lt;have Ft:=a.lt;obtain⟨p0,p1,p2,-⟩:=D.c3;have BW:=hid D;have u:=hid g;have F:=hid a;clear D g a;have I:t.heap.size≠w.heap.size:=by omega
  go_region_held3 (λX:World=>X.cell? ⟨t.heap.size,0,none⟩=some (.int .i64 (x:Int))/\X.cell? ⟨t.heap.size,1,none⟩=some (.int .i64 (y:Int))/\X.cell? ⟨t.heap.size,2,none⟩=some (.int .i64 (z:Int))) (first | exact⟨(((R.out.far I _).far I _).far I _).cell 0,(((R.out.far I _).far I _).far I _).cell 1,(((R.out.far I _).far I _).far I _).cell 2⟩ | go_keep)
   (first | (go_at_call 162;refine (Fw.out _ (show RdW o.drew o.drew.heap.size A ws from i.out)).mono ?_;rintro e w3 ⟨rfl,B⟩;have m0:=(B.cell (p:=⟨t.heap.size,0,none⟩) M).trans p0;have m1:=(B.cell (p:=⟨t.heap.size,1,none⟩) M).trans p1;have m2:=(B.cell (p:=⟨t.heap.size,2,none⟩) M).trans p2;have k:Below o.heap.size o w3:=(kqk o.heap.size o).drew.trans B;have E:=hid (F.out.up k Ft);have R:=hid (BW.out.up k M);have N:=hid (u.out.trans (k.mono u.out.size));clear B k;obtain⟨q0,Y,q2,U,f1,T,H⟩:=E.out.c3))
  go_wp2_with fail;exact kqr (v:=.tuple #[.agg #[.int .i64 (x:Int),.int .i64 (y:Int),.int .i64 (z:Int)],.int .i64 r]) (aR results101 _ (((E.out.set_ 0 _).set_ 1 _).set_ 2 _) rfl rfl) rfl ⟨by rw[K.out],((N.out.setCell (kqb _) _).setCell (kqb _) _).setCell (kqb _) _⟩
 have K:=hid (λr h=>AM (ws:=ws) (r:=r) h);rw[lnV_no h0] at Z |-;obtain⟨r,J⟩:=xq (cF ws);rw[J] at Z h0;have K:=hid (K.out r J h0);have Fx:(r != 0)=true:=by rw[kqt];exact h0
 unfold phV at Z |-;simp only[kqy] at Z |-;have Q:Hid (∀t:World,Below w.heap.size w t->True):=hid λ_ _=>trivial;clear h0 J b0;go_enter func101,ntmps101;go_wp2_with fail;refine Z.out.mono ?_;rintro e t ⟨rfl,b⟩;have d:=ao b;have i:=hid (Q.out _ d);have G:=Bx.of_new b;have B1:=hid G;have j:=hid d;obtain⟨q0,Y,q2,U,f1,T,H⟩:=G.c3;clear b d G;go_wp2_with fail;exact kqr (v:=.tuple #[.agg #[.int .i64 0,.int .i64 0,.int .i64 0],.int .i64 r]) (aR results101 _ ((((B1.out.set_ 0 _).set_ 1 _).set_ 2 _).alloc _) rfl rfl) rfl ⟨by rw[K.out],(((j.out.setCell (kqb _) _).setCell (kqb _) _).setCell (kqb _) _).alloc (by simp;exact j.out.size) _⟩
theorem ng(A:Option Addr)(ws:List Nat)(c n:Nat)(w:World)(hn:ws.length=n)(hm:n<=9223372036854775807)(hc:n<=c)(hr:RdW w w.heap.size A ws)(ho:∀x∈ws,x<18446744073709551616):
 Calls prog 52 #[.slice A n c] w λe w'=>e=.returned (.int .i64 (aw ws))/\Below w.heap.size w w':=by
 have d:=hid (uj A ws c n w hn hm hc hr ho);have f:∃x y z:Nat,lnV ws=phV x y z:=by
  unfold lnV;split
  .exact ⟨_,_,_,rfl⟩
  exact⟨0,0,0,rfl⟩
 obtain⟨x,y,z,f⟩:=f;rw[f] at d;unfold phV at d;obtain⟨r,a⟩:=xq (aw ws);rw[a] at d |-;clear a f hr ho hn;go_enter func52,ntmps52;go_wp2_with fail;refine d.out.mono ?_;rintro e w1 ⟨rfl,b⟩;go_wp2;go_ret;exact⟨rfl,b.alloc b.size _⟩
theorem lfN_no(h:aw ws≠0):lfN ws=0:=by simp[lfN,h]
theorem EA(h:wd ws 16<3):lfN ws=0:=by simp[lfN,h]
theorem zT(h:aw ws=0)(h2:¬ wd ws 16<3):lfN ws=(ed (aU ws (fN ws))).length:=by unfold lfN;rw[if_pos h,if_neg h2]
theorem iX(h:aw ws=0):cF ws=0:=by
 unfold aw at h;split at h
 .assumption
 exact h
theorem wi(hk:k<l.length):(ed (l.take (k+1))).length=(ed (l.take k)).length+(if l[k].mark=true then 1 else 0):=by rw[qs hk,kqz];split<;>rfl
theorem EZ(A:Option Addr)(ws:List Nat)(c n:Nat)(w:World)(hn:ws.length=n)(hm:n<=9223372036854775807)(hc:n<=c)(D:RdW w w.heap.size A ws)(ho:∀x∈ws,x<18446744073709551616):
 Calls prog 164 #[.slice A n c] w λe w'=>e=.returned (.tuple #[.int .i64 (lfN ws:Nat),.int .i64 (aw ws)])/\Below w.heap.size w w':=by
 subst hn;have p:=hid (uj A ws c ws.length w rfl hm hc D ho);have HR:=hid D;have HO:=hid ho;clear D ho;by_cases o:aw ws=0
 .obtain ⟨h1,-⟩:=dt (iX o);obtain⟨hs,h3,h4⟩:=cK h1;obtain⟨⟨l0,l1,l2⟩,-⟩:=(aY ws).1 h3;have P:=de ws hs;have U:lnV ws=phV (wd ws 16) (wd ws 17) (wd ws 18):=by simp[lnV,iX o]
  have j:=hid (λh=>EA (ws:=ws) h);have f:=hid (λh=>zT o h);have B:=hid (λW (h:RdW W W.heap.size A ws)=>lz A ws c ws.length (fN ws) W rfl hm h HO.out);unfold pm at B;have Q:=gQ ws (fN ws);have u:Hid (fN ws=if (wd ws 17:Int)<128 then 128 else (wd ws 17:Int)):=hid rfl;have K:Hid (∀t:World,Below w.heap.size w t->RdW (t.alloc (.cells #[.int .i64 (wd ws 16:Int),.int .i64 (wd ws 17:Int),.int .i64 (wd ws 18:Int)] 107)) (t.alloc (.cells #[.int .i64 (wd ws 16:Int),.int .i64 (wd ws 17:Int),.int .i64 (wd ws 18:Int)] 107)).heap.size A ws):=hid λt h2=>((HR.out.up h2 h2.size).alloc (kqb _) _).more (by simp);rw[o,U] at p;rw[o];unfold phV at p;have hlen2:ws.length<=2048:=P.2.1;clear o h1 hs h3 h4 U P;obtain⟨x,E⟩:=xq (wd ws 16);obtain⟨y,Y⟩:=xq (wd ws 17);obtain⟨z,H⟩:=xq (wd ws 18);obtain⟨g,L⟩:=xq (fN ws);obtain⟨l,Z⟩:=xq (aU ws g);obtain⟨r,D⟩:=xq (co ws g);obtain⟨N,hN⟩:=xq (lfN ws);rw[L,Z,D] at B;rw[hN] at j f |-;rw[L,Z] at f;rw[L,Z] at Q;rw[L,Y] at u;rw[E,Y,H] at p K;rw[E] at j f;rw[Y] at l1;clear E Y H L Z D hN l0 l2;by_cases C:x<3
  .have hd:decide ((x:Int)<3)=true:=by rw[kql];omega
   have Fq:decide (x<3)=true:=by rw[kql];exact C
   have V:=hid (j.out C);clear j f C u;go_enter func164,ntmps164;go_wp2_with fail;refine p.out.mono ?_;rintro e t ⟨rfl,a⟩;go_wp2;go_ret2;exact⟨by rw[V.out];rfl,a.alloc a.size _⟩
  have hd:decide ((x:Int)<3)=false:=by rw[kqc];omega
  have Fq:decide (x<3)=false:=by rw[kqc];exact C
  have V:=hid (f.out C);clear j f C;go_enter func164,ntmps164;go_wp2_with fail;refine p.out.mono ?_;rintro e t ⟨rfl,a⟩;have Fo:=hid (K.out _ a);have J:=hid a;clear a;go_wp2_with fail
  all_goals
   have F:Hid (∀q,g=q->∀W:World,RdW W W.heap.size A ws->Calls prog 65 #[.slice A ws.length c,.int .i64 q] W λe w'=>(∃A c,e=Ending.returned (.tuple #[.slice A l.length c,.int .i64 r])/\RdB w' w'.heap.size A l/\l.length<=c)/\Below W.heap.size W w'):=hid (λq hq=>by rw[<-hq];exact B.out);refine (F.out _ (by rw[u.out];first|rw[if_pos (by assumption)] | rw[if_neg (by omega)]) _ Fo.out).mono ?_;rintro e w2 ⟨⟨A1,c1,rfl,S,-⟩,v⟩;rw[kqn] at v;have M:=hid (J.out.trans ((ao v).mono J.out.size));have Fp:=hid S;have Eq:=M.out.size;clear S v F;go_wp2_with fail;go_loopw [8,32] (λm i wr=>∃k:Nat,k<=l.length/\i=.int .i64 k/\m=.int .i64 ((ed (l.take k)).length:Nat)/\Below w2.heap.size w2 wr) (λ_ i _=>l.length-(intOf i).toNat)
   case atStart=>exact⟨0,kqx _,rfl,rfl,kqk _ _⟩
   obtain⟨k,hk,rfl,rfl,T⟩:=hrel;have H:=T.size;by_cases G:k<l.length
   .obtain ⟨b,off,rfl,hbw,q0,q1,q2,q3,q4,q5⟩:=RdB.at_ (Fp.out.below T) G;have d:=hid (wi G);have I:=Bf (l.take k);rw[kzd] at I;obtain⟨m,R⟩:=xq ((ed (l.take k)).length);rw[R] at d I |-;obtain⟨x',E⟩:∃x,l[k]=x:=⟨_,rfl⟩;rw[E] at q0 q1 q2 q3 q4 q5 d;obtain⟨xa,xs,xk,xt,xm,xn⟩:=x';dsimp only at q0 q1 q2 q3 q4 q5 d;have hlm:(k:Int)<(l.length:Int):=by omega
    have hmk:(m:Int)<=4611686018427387904:=by omega
    clear E R;cases xm
    .have s:=hid (d.out.trans (kz6 m));clear d;go_wp2;go_roundw
     case rel=>exact⟨k+1,by omega,by go_num,by rw[s.out],T.alloc H _⟩
     case measure=>simp[intOf];omega
    have s:=hid (show (ed (l.take (k+1))).length=m+1 from d.out);clear d;go_wp2;go_roundw
    case rel=>exact⟨k+1,by omega,by go_num,by rw[s.out];go_num,T.alloc H _⟩
    case measure=>simp[intOf];omega
   rw[kzb (by omega)];rw[<-V.out];go_wp2;go_ret2;exact⟨rfl,M.out.trans (T.mono Eq)⟩
 have V:=hid (lfN_no o);have X:∃x y z:Nat,lnV ws=phV x y z:=by
  unfold lnV;split
  .exact ⟨_,_,_,rfl⟩
  exact⟨0,0,0,rfl⟩
 obtain⟨x,y,z,X⟩:=X;rw[X] at p;unfold phV at p;obtain⟨r,O⟩:=xq (aw ws);rw[O] at p o |-;have hrn:(r != 0)=true:=by rw[kqt];exact o
 clear O X o;go_enter func164,ntmps164;go_wp2_with fail;refine p.out.mono ?_;rintro e t ⟨rfl,a⟩;go_wp2;go_ret2;exact⟨by rw[V.out];rfl,a.alloc a.size _⟩
end Go.Proofs.YtpcajamacpbjcaaGreat
