/- Texts laid together: PhP Ph Cur1 Mvd Ck Left. -/
import Derived.Test.YtpcajamacpbjcaaGreatZKHead
import Derived.Test.YtpcajamacpbjcaaGreatZKPlain
import Derived.Test.YtpcajamacpbjcaaGreatZKHeap
import Derived.Deep.RegionHeld3
import Derived.Deep.DrawnRows
import Derived.Laws.BitsLemmas
import Derived.Test.YtpcajamacpbjcaaGreatZKMove
set_option maxHeartbeats 16000000
set_option maxRecDepth 100000
set_option linter.all false
namespace Go.Proofs.YtpcajamacpbjcaaGreat
open Lib (hid)
variable {r:Int}{l:List Bk}{ws:List Nat}{f i k t:Nat}
open Go.Proofs.Tryz
def kT (n:Nat):Bool:=decide (128<=n)&&(decide (n<=2048)&&n%2==0)
theorem aQ(n:Nat):kT n=true↔128<=n/\n<=2048/\n%2=0:=by simp[kT]
def z6 (p f t:Nat):Bool:=if p=4 then kT f&&(kT t&&decide (t<=f)) else if t≠0 then false else if p=3 then f==0||kT f else decide (p<3)&&f==0
theorem cq(p f t:Nat):z6 p f t=true↔p=4/\kT f=true/\kT t=true/\t<=f\/p=3/\t=0/\(f=0\/kT f=true)\/p<3/\t=0/\f=0:=by
 unfold z6;split
 .rename_i h;subst h;simp
 rename_i h4;split
 .rename_i h;simp[h4,h]
 rename_i h;have a:t=0:=by omega
 subst a;split
 .rename_i h3;subst h3;simp
 rename_i h3;simp[h4,h3]
def iY (ws:List Nat):Bool:=(decide (wd ws 16<=ws.length)&&(decide (wd ws 17<=ws.length)&&decide (wd ws 18<=ws.length)))&&(wd ws 19==0&&(wd ws 20==0&&(wd ws 21==0&&(wd ws 22==0&&wd ws 23==0))))
def cy (ws:List Nat):Int:=if al (ws.length:Int)=true then (if (iY ws&&z6 (wd ws 16) (wd ws 17) (wd ws 18))=true then 0 else 50) else 8
def phV (p f t:Nat):Value:=.agg #[.int .i64 (p:Int),.int .i64 (f:Int),.int .i64 (t:Int)]
def prV (ws:List Nat):Value:=if cy ws=0 then phV (wd ws 16) (wd ws 17) (wd ws 18) else phV 0 0 0
theorem rx(h:al (ws.length:Int)=false):cy ws=8/\prV ws=phV 0 0 0:=by simp[prV,cy,h]
theorem rn(h:al (ws.length:Int)=true)(h2:(iY ws&&z6 (wd ws 16) (wd ws 17) (wd ws 18))=false):cy ws=50/\prV ws=phV 0 0 0:=by simp[prV,cy,h,h2]
theorem ml(h:al (ws.length:Int)=true)(h2:(iY ws&&z6 (wd ws 16) (wd ws 17) (wd ws 18))=true):cy ws=0/\prV ws=phV (wd ws 16) (wd ws 17) (wd ws 18):=by simp[prV,cy,h,h2]
theorem fv(h:cy ws=0):al (ws.length:Int)=true/\iY ws=true/\z6 (wd ws 16) (wd ws 17) (wd ws 18)=true:=by
 unfold cy at h;split at h
 .split at h
  .rename_i h1 h2;simp only[kqz] at h2;exact⟨h1,h2⟩
  simp at h
 simp at h
theorem qY(ws:List Nat):cy ws=0\/cy ws=8\/cy ws=50:=by
 unfold cy;split
 .split<;>simp
 simp
theorem bj(ws:List Nat):iY ws=true↔(wd ws 16<=ws.length/\wd ws 17<=ws.length/\wd ws 18<=ws.length)/\wd ws 19=0/\wd ws 20=0/\wd ws 21=0/\wd ws 22=0/\wd ws 23=0:=by simp[iY]
theorem Du(hi:i<8)(h:i<3/\ws.length<wd ws (16+i)\/3<=i/\wd ws (16+i)≠0):iY ws=false:=by
 cases a:iY ws with
 | false=>rfl
 | true =>
  obtain⟨⟨a0,a1,a2⟩,a3,a4,a5,a6,a7⟩:=(bj ws).1 a;exfalso
  match i,hi with
  | 0,_=>simp only[kxd] at h;omega
  | 1,_=>simp only[Nat.reduceAdd] at h;omega
  | 2,_=>simp only[Nat.reduceAdd] at h;omega
  | 3,_=>simp only[Nat.reduceAdd] at h;omega
  | 4,_=>simp only[Nat.reduceAdd] at h;omega
  | 5,_=>simp only[Nat.reduceAdd] at h;omega
  | 6,_=>simp only[Nat.reduceAdd] at h;omega
  | 7,_=>simp only[Nat.reduceAdd] at h;omega
def oU (ws:List Nat) (f:Nat):Bool:=match blocks ws 128 with
 | none=>false
 | some l=>l.any (λb=>b.at_==(f:Int))||f==ws.length
def cC (ws:List Nat):Int:=if cy ws=0 then (if wd ws 16=3/\wd ws 17≠0/\oU ws (wd ws 17)=false then 50 else 0) else cy ws
def lnV (ws:List Nat):Value:=if cC ws=0 then phV (wd ws 16) (wd ws 17) (wd ws 18) else phV 0 0 0
theorem gz(h:cC ws=0):cy ws=0/\(wd ws 16=3->wd ws 17≠0->oU ws (wd ws 17)=true):=by
 unfold cC at h;split at h
 .rename_i h1;refine⟨h1,λa c=>?_⟩;split at h
  .simp at h
  rename_i h4;cases b:oU ws (wd ws 17) with
  | true=>rfl
  | false=>exact absurd ⟨a,c,b⟩ h4
 rename_i h1;exact absurd h h1
theorem Cd(ws:List Nat):cC ws=0\/cC ws=8\/cC ws=50:=by
 unfold cC;split
 .split<;>simp
 exact qY ws
def mdOk (ws:List Nat) (i:Nat):Bool:=az (wd ws i)&&((ah (wd ws i)).kind==1&&(!(ah (wd ws i)).mark&&cD ws (ah (wd ws i))))
def Ah (ws:List Nat):Nat->Nat->Nat->Bool
 | 0,i,t=>i==t
 | f+1,i,t=>if i<t then mdOk ws i&&Ah ws f (i+szAt ws i) t else i==t
theorem kZ(h:mdOk ws i=true):2<=szAt ws i/\szAt ws i%2=0/\szAt ws i<=10:=by unfold mdOk az at h;simp only[kqz,kqx] at h;obtain⟨⟨a,-⟩,h2,-⟩:=h;have h3:=(bn _).1 a;have e:(ah (wd ws i)).size=((szAt ws i:Nat):Int):=rfl;omega
theorem mO :∀ {f i g:Nat},t-i<=f->t-i<=g->Ah ws f i t=Ah ws g i t:=by
 intro f
 induction f with
 | zero =>
  intro i g h a;cases g with
  | zero=>rfl
  | succ g=>simp only[Ah];rw[if_neg (by omega)]
 | succ f ih =>
  intro i g h a;cases g with
  | zero=>simp only[Ah];rw[if_neg (by omega)]
  | succ g =>
   simp only[Ah];split
   .cases b:mdOk ws i with
    | false=>simp
    | true =>have:=kZ b;rw[ih (i:=i+szAt ws i) (by omega) (g:=g) (by omega)]
   rfl
def mvd (ws:List Nat) (i t:Nat):Bool:=Ah ws t i t
theorem jx(h:t<=i):mvd ws i t=(i==t):=by unfold mvd;rw[mO (g:=0) (by omega) (by omega)];rfl
theorem ku(h:i<t)(h2:mdOk ws i=true):mvd ws i t=mvd ws (i+szAt ws i) t:=by unfold mvd;have:=kZ h2;rw[mO (g:=t+1) (by omega) (by omega),Ah,if_pos h,h2,kzx]
theorem sj(h:i<t)(h2:mdOk ws i=false):mvd ws i t=false:=by unfold mvd;rw[mO (g:=t+1) (by omega) (by omega),Ah,if_pos h,h2,kxy]
def av (ws:List Nat):Int:=if cC ws=0 then (if wd ws 16=4 then (if mvd ws 128 (wd ws 18)=true then a9 ws (wd ws 17:Nat) (wd ws 18:Nat) else 50) else if wd ws 16=3 then a9 ws 128 128 else af ws) else cC ws
def fR (ws:List Nat):Int:=if (wd ws 17:Int)<128 then 128 else (wd ws 17:Int)
def lfN (ws:List Nat):Nat:=if av ws=0 then (if wd ws 16<3 then 0 else (dG (aO ws (fR ws))).length) else 0
open Go.RowKit
theorem DK(n:Int):bits .and .i64 n 1=n%2:=by
 have b:(BitVec.ofInt 64 1).toNat=2 ^ 1-1:=by decide
 have a:(BitVec.ofInt 64 n &&& BitVec.ofInt 64 1).toNat=(n%((2 ^ 64:Nat):Int)).toNat%2 ^ 1:=by rw[BitVec.toNat_and,BitVec.toNat_ofInt,b,kjj]
 show IntKind.i64.wrap ((BitVec.ofInt 64 n &&& BitVec.ofInt 64 1).toNat:Nat)=n%2;rw[a,IntKind.wrap_i64];omega
theorem zc(n:Nat)(w:World)(hn:n<=4611686018427387904):Calls prog 217 #[.int .i64 (n:Int)] w λe w'=>e=.returned (.bool (kT n))/\w=w':=by
 have H:Hid (∀b:Bool,(b=true↔128<=n/\n<=2048/\n%2=0)->b=kT n):=hid λb h=>by rw[kzr,aQ,h]
 have ha:=DK (n:Int);go_enter func217,ntmps217;go_wp2_with fail
 all_goals
  go_ret;exact⟨kh (H.out _ (by simp;omega)),rfl⟩
def sP (p f t:Nat):Int:=if z6 p f t=true then 0 else 8
theorem CU(p f t:Nat)(w:World)(hp:p<=4611686018427387904)(hf:f<=4611686018427387904)(ht:t<=4611686018427387904):
 Calls prog 163 #[phV p f t] w λe w'=>e=.returned (.int .i64 (sP p f t))/\Below w.heap.size w w':=by
 have i:=hid (λW=>zc f W hf);have j:=hid (λW=>zc t W ht);have c:Hid (∀r:Int,r=(if (if p=4 then kT f&&(kT t&&decide (t<=f)) else if t≠0 then false else if p=3 then f==0||kT f else decide (p<3)&&f==0)=true then 0 else 8)->sP p f t=r):=hid λr h=>by rw[h];rfl
 have y:=(kql w.heap.size w).alloc (kqg _) (.cells #[.int .i64 (p:Int),.int .i64 (f:Int),.int .i64 (t:Int)] 107);have b:=hid y;unfold phV;clear y;by_cases k:p=4
 .subst k;cases a:kT f
  .rw[a] at i;have d:=hid (c.out 8 (by rw[if_pos rfl,a];rfl));clear c j a;(try simp only[kzb] at b |-);go_enter func163,ntmps163;go_wp2_with fail;refine (i.out _).mono ?_;rintro e n ⟨rfl,rfl⟩;go_wp2;go_ret;exact⟨by rw[d.out];rfl,b.out⟩
  cases g:kT t
  .rw[a] at i;rw[g] at j;have d:=hid (c.out 8 (by rw[if_pos rfl,a,g];rfl));clear c a g;(try simp only[kzb] at b |-);go_enter func163,ntmps163;go_wp2_with fail;refine (i.out _).mono ?_;rintro e n ⟨rfl,rfl⟩;go_wp2_with fail;refine (j.out _).mono ?_;rintro e n ⟨rfl,rfl⟩;go_wp2;go_ret;exact⟨by rw[d.out];rfl,b.out⟩
  rw[a] at i;rw[g] at j;by_cases s:t<=f
  .have u:decide ((t:Int)<=(f:Int))=true:=by rw[kqo];omega
   have l:decide (t<=f)=true:=by rw[kqo];omega
   have d:=hid (c.out 0 (by rw[if_pos rfl,a,g,l];rfl));clear c a g s;(try simp only[kzb] at b |-);go_enter func163,ntmps163;go_wp2_with fail;refine (i.out _).mono ?_;rintro e n ⟨rfl,rfl⟩;go_wp2_with fail;refine (j.out _).mono ?_;rintro e n ⟨rfl,rfl⟩;go_wp2;go_ret;exact⟨by rw[d.out];rfl,b.out⟩
  have u:decide ((t:Int)<=(f:Int))=false:=by rw[kqh];omega
  have l:decide (t<=f)=false:=by rw[kqh];omega
  have d:=hid (c.out 8 (by rw[if_pos rfl,a,g,l];rfl));clear c a g s;(try simp only[kzb] at b |-);go_enter func163,ntmps163;go_wp2_with fail;refine (i.out _).mono ?_;rintro e n ⟨rfl,rfl⟩;go_wp2_with fail;refine (j.out _).mono ?_;rintro e n ⟨rfl,rfl⟩;go_wp2;go_ret;exact⟨by rw[d.out];rfl,b.out⟩
 have e4:((p:Int)==4)=false:=by rw[kqi];omega
 have e4n:(p==4)=false:=by rw[kqi];omega
 by_cases x:t=0
 .subst x;by_cases o:p=3
  .subst o;by_cases m:f=0
   .subst m;have d:=hid (c.out 0 (by simp));clear c i j k;(try simp only[kzb] at b |-);go_enter func163,ntmps163;go_wp2;go_ret;exact⟨by rw[d.out];rfl,b.out⟩
   have z:((f:Int)==0)=false:=by rw[kqi];omega
   have v:(f==0)=false:=by rw[kqi];omega
   cases a:kT f
   .rw[a] at i;have d:=hid (c.out 8 (by simp[a,m]));clear c j a k m;(try simp only[kzb] at b |-);go_enter func163,ntmps163;go_wp2_with fail;refine (i.out _).mono ?_;rintro e n ⟨rfl,rfl⟩;go_wp2;go_ret;exact⟨by rw[d.out];rfl,b.out⟩
   rw[a] at i;have d:=hid (c.out 0 (by simp[a]));clear c j a k m;(try simp only[kzb] at b |-);go_enter func163,ntmps163;go_wp2_with fail;refine (i.out _).mono ?_;rintro e n ⟨rfl,rfl⟩;go_wp2;go_ret;exact⟨by rw[d.out];rfl,b.out⟩
  have e3:((p:Int)==3)=false:=by rw[kqi];omega
  have e3n:(p==3)=false:=by rw[kqi];omega
  have p0:(0:Int)<=(p:Int):=by omega
  by_cases q:p<3
  .have u:decide ((p:Int)<3)=true:=by rw[kqo];omega
   have l:decide (p<3)=true:=by rw[kqo];omega
   by_cases m:f=0
   .subst m;have d:=hid (c.out 0 (by simp[k,o,q]));clear c i j k o q;(try simp only[kzb] at b |-);go_enter func163,ntmps163;go_wp2;go_ret;exact⟨by rw[d.out];rfl,b.out⟩
   have z:((f:Int)==0)=false:=by rw[kqi];omega
   have v:(f==0)=false:=by rw[kqi];omega
   have d:=hid (c.out 8 (by simp[k,o,q,m]));clear c i j k o q m;(try simp only[kzb] at b |-);go_enter func163,ntmps163;go_wp2;go_ret;exact⟨by rw[d.out];rfl,b.out⟩
  have u:decide ((p:Int)<3)=false:=by rw[kqh];omega
  have l:decide (p<3)=false:=by rw[kqh];omega
  have d:=hid (c.out 8 (by simp[k,o,q]));clear c i j k o q;(try simp only[kzb] at b |-);go_enter func163,ntmps163;go_wp2;go_ret;exact⟨by rw[d.out];rfl,b.out⟩
 have et:((t:Int) != 0)=true:=by rw[kqt];omega
 have etn:(t != 0)=true:=by rw[kqt];omega
 have d:=hid (c.out 8 (by rw[if_neg k,if_pos x];rfl));clear c i j k x;(try simp only[kzb] at b |-);go_enter func163,ntmps163;go_wp2;go_ret;exact⟨by rw[d.out];rfl,b.out⟩
def tL (ws:List Nat) (k:Nat):Array Value:=#[.int .i64 (if 0<k then (wd ws 16:Int) else 0),.int .i64 (if 1<k then (wd ws 17:Int) else 0),.int .i64 (if 2<k then (wd ws 18:Int) else 0)]
theorem Bz(ws:List Nat)(hk:k<3):(tL ws k).setIfInBounds k (.int .i64 (wd ws (16+k):Int))=tL ws (k+1):=by
 match k,hk with
 | 0,_=>rfl
 | 1,_=>rfl
 | 2,_=>rfl
theorem wx(ws:List Nat)(hk:3<=k):tL ws (k+1)=tL ws k:=by unfold tL;rw[if_pos (by omega),if_pos (by omega),if_pos (by omega),if_pos (by omega),if_pos (by omega),if_pos (by omega)]
theorem vM(ws:List Nat)(hk:k<3):∃u,(tL ws k)[k]? = some u:=by
 match k,hk with
 | 0,_=>exact⟨_,rfl⟩
 | 1,_=>exact⟨_,rfl⟩
 | 2,_=>exact⟨_,rfl⟩
def okTo (ws:List Nat) (k:Nat):Prop:=∀i,i<k->(i<3->wd ws (16+i)<=ws.length)/\(3<=i->wd ws (16+i)=0)
theorem zz(ws:List Nat):okTo ws 0:=λi h=>absurd h (by omega)
theorem yG(h:okTo ws k)(h1:(k<3->wd ws (16+k)<=ws.length)/\(3<=k->wd ws (16+k)=0)):okTo ws (k+1):=λi hi=>by
 rcases kq9 i k with a|a
 .exact h i a
 .have:i=k:=by omega
  subst this;exact h1
theorem AM(h:okTo ws 8):iY ws=true:=by rw[bj];exact⟨⟨(h 0 (by omega)).1 (by omega),(h 1 (by omega)).1 (by omega),(h 2 (by omega)).1 (by omega)⟩,(h 3 (by omega)).2 (by omega),(h 4 (by omega)).2 (by omega),(h 5 (by omega)).2 (by omega),(h 6 (by omega)).2 (by omega),(h 7 (by omega)).2 (by omega)⟩
theorem vr(h:al (ws.length:Int)=true)(h2:iY ws=false):cy ws=50/\prV ws=phV 0 0 0:=rn h (by rw[h2,kxy])
theorem El(h:al (ws.length:Int)=true)(h2:sP (wd ws 16) (wd ws 17) (wd ws 18)≠0):cy ws=50/\prV ws=phV 0 0 0:=rn h (by
 unfold sP at h2;cases a:z6 (wd ws 16) (wd ws 17) (wd ws 18) with
 | false=>rw[kj3]
 | true=>rw[a] at h2;exact absurd rfl h2)
theorem vt(h:al (ws.length:Int)=true)(h1:iY ws=true)(h2:sP (wd ws 16) (wd ws 17) (wd ws 18)=0):cy ws=0/\prV ws=phV (wd ws 16) (wd ws 17) (wd ws 18):=ml h (by
 unfold sP at h2;cases a:z6 (wd ws 16) (wd ws 17) (wd ws 18) with
 | true=>rw[h1];rfl
 | false=>rw[a] at h2;cases h2)
theorem bi{fn:Func}{p q:Tmp}(h:fn.results=#[.cell p 107,.tmp q])(tmps:Array Value){W:World}{g:Nat}{t:TypeId}{v0 v1 v2 u:Value}(hb:Bx W g t #[v0,v1,v2])(hp:tmps.getD p undef=.pointer (some ⟨g,0,none⟩))(hq:tmps.getD q undef=u):
 (results fn tmps).run prog W=.ok (.tuple #[.agg #[v0,v1,v2],u]) W:=by obtain⟨a,b,c,-⟩:=hb.c3;rw[kxp] at hp hq;simp[results,h,hp,hq,go_sem,a,b,c]
theorem FL(A:Option Addr)(ws:List Nat)(c n:Nat)(w:World)(hn:ws.length=n)(hm:n<=9223372036854775807)(hc:n<=c)(R:RdW w w.heap.size A ws)(ho:∀x∈ws,x<18446744073709551616):
 Calls prog 102 #[.slice A n c] w λe w'=>e=.returned (.tuple #[prV ws,.int .i64 (cy ws)])/\Below w.heap.size w w':=by
 subst hn;have HR:=hid R;have HO:=hid ho;clear R ho;have f:=Bx.new w 107 #[.int .i64 0,.int .i64 0,.int .i64 0];cases I:al (ws.length:Int)
 .have HI:=hid (bA I);have l:=hid (rx I);have J:=hid f;clear I f;go_enter func102,ntmps102;go_wp2_with fail;refine (aF A ws.length c _ hm).mono ?_;rintro e w1 ⟨rfl,rfl⟩;rw[HI.out];go_wp2_with fail;refine kqv (v:=.tuple #[.agg #[.int .i64 0,.int .i64 0,.int .i64 0],.int .i64 8]) (bi results102 _ J.out rfl rfl) rfl ⟨by rw[l.out.1,l.out.2];rfl,(kql _ _).alloc (kqg _) _⟩
 have HI:=hid (aW I);obtain⟨hb1,F,-⟩:=fP ws I;have HS:=hid I;have J:=hid f;obtain⟨b,off,rfl,hb,-⟩:=RdW.at_ HR.out (show 0<ws.length by omega);have HC:Hid (∀k (h:k<8) (W:World),Below w.heap.size w W->W.cell? ⟨b,off+16+k,none⟩=some (.int .u64 (wd ws (16+k):Int))):=hid λk h W C=>by
  obtain⟨b',off',e',-,Y⟩:=RdW.at_ (Rd.below HR.out C) (show 16+k<ws.length by omega);cases e';rw[<-ce,<-kjz] at Y;exact Y
 have Jb:Hid (∀k,wd ws k<18446744073709551616):=hid (fd HO.out);have hc24:(24:Int)<=(c:Int):=by omega
 have hc16:((c:Int)==16)=false:=by rw[kqi];omega
 have hc16n:(c==16)=false:=by rw[kqi];omega
 have hne:¬ c=16:=by omega
 clear I f;go_enter func102,ntmps102;go_wp2_with fail;refine (aF _ ws.length c _ hm).mono ?_;rintro e w1 ⟨rfl,rfl⟩;rw[HI.out];go_wp2_with fail;go_loopw [20] (λi wr=>∃k:Nat,k<=8/\i=.int .i64 k/\Hid (okTo ws k)/\Bx wr w.heap.size 107 #[.int .i64 0,.int .i64 0,.int .i64 0]/\Bx wr (w.heap.size+1) 226 (tL ws k)/\Below w.heap.size w wr) (λi _=>8-(intOf i).toNat)
 case atStart =>
  have x1:=Bx.new (w.alloc (.cells #[.int .i64 0,.int .i64 0,.int .i64 0] 107)) 226 #[.int .i64 0,.int .i64 0,.int .i64 0];rw[kqn] at x1;exact⟨0,kqy _,rfl,zz ws,J.out.alloc _,x1,((kql _ _).alloc (kqg _) _).alloc (by simp) _⟩
 obtain⟨k,hk,rfl,S,f,q,C⟩:=hrel;have hz:=C.size;by_cases Q:k<8
 .have Y:=HC.out k Q _ C;have Jc:=Jb.out (16+k);have g:=hid (λh=>yG S.out h);have j:=hid (λh=>vr HS.out (Du Q h));have a:=hid (λh=>Bz ws (k:=k) h);have o:=hid (λh=>wx ws (k:=k) h);have m:=hid (λh=>vM ws (k:=k) h);obtain⟨x,M⟩:=xq (wd ws (16+k));rw[M] at Y Jc g j a;have hk1:(k:Int)<8:=by omega
  have hk0:(0:Int)<=(k:Int):=by omega
  have hx1:(0:Int)<=(x:Int):=by omega
  clear M;by_cases E:k<3
  .have Ja:decide ((k:Int)<3)=true:=by rw[kqo];omega
   have O:decide (k<3)=true:=by rw[kqo];omega
   obtain⟨u,hu⟩:=m.out E;by_cases t:x<=ws.length
   .have Eq:decide ((x:Int)<=(ws.length:Int))=true:=by rw[kqo];omega
    have N:decide (x<=ws.length)=true:=by rw[kqo];omega
    have HY:=hid (g.out ⟨λ_=>t,λh=>absurd h (by omega)⟩);have HZ:=hid (a.out E);have X:=(q.cell k).trans hu;have Z:=q.frozen k;have G:=hid f;have B1:=hid q;have hxw:IntKind.i64.wrap (x:Int)=(x:Int):=kqr _ (by omega);clear g j a o m f q hu t;go_wp2;go_roundw
    case rel=>exact⟨k+1,by omega,by go_num,HY.out,G.out.far (by simp) _,by rw[<-HZ.out];exact B1.out.set_ k _,C.setCell (by simp) _⟩
    case measure=>simp[intOf];omega
   have Eq:decide ((x:Int)<=(ws.length:Int))=false:=by rw[kqh];omega
   have N:decide (x<=ws.length)=false:=by rw[kqh];exact t
   have l:=hid (j.out (.inl ⟨E,by omega⟩));have G:=hid f;obtain⟨c0,X,c2,f0,Z,f2,K⟩:=f.c3;clear g j a o m f q hu t;go_wp2_with fail;refine kqv (v:=.tuple #[.agg #[.int .i64 0,.int .i64 0,.int .i64 0],.int .i64 50]) (bi results102 _ (((G.out.set_ 0 _).set_ 1 _).set_ 2 _) rfl rfl) rfl ⟨by rw[l.out.1,l.out.2];rfl,((C.setCell (by simp) _).setCell (by simp) _).setCell (by simp) _⟩
  have Ja:decide ((k:Int)<3)=false:=by rw[kqh];omega
  have O:decide (k<3)=false:=by rw[kqh];omega
  by_cases d:x=0
  .have Jd:((x:Int) != 0)=false:=by rw[kqq];omega
   have V:(x != 0)=false:=by rw[kqq];exact d
   have HY:=hid (g.out ⟨λh=>absurd h E,λ_=>d⟩);have HZ:=hid (o.out (by omega));have G:=hid f;have B1:=hid q;clear g j a o m f q d;go_wp2;go_roundw
   case rel=>exact⟨k+1,by omega,by go_num,HY.out,G.out,by rw[HZ.out];exact B1.out,C⟩
   case measure=>simp[intOf];omega
  have Jd:((x:Int) != 0)=true:=by rw[kqt];omega
  have V:(x != 0)=true:=by rw[kqt];exact d
  have l:=hid (j.out (.inr ⟨by omega,d⟩));have G:=hid f;obtain⟨c0,X,c2,f0,Z,f2,K⟩:=f.c3;clear g j a o m f q d;go_wp2_with fail;refine kqv (v:=.tuple #[.agg #[.int .i64 0,.int .i64 0,.int .i64 0],.int .i64 50]) (bi results102 _ (((G.out.set_ 0 _).set_ 1 _).set_ 2 _) rfl rfl) rfl ⟨by rw[l.out.1,l.out.2];rfl,((C.setCell (by simp) _).setCell (by simp) _).setCell (by simp) _⟩
 obtain rfl:k=8:=by omega
 have T:=hid (AM S.out);obtain⟨⟨l0,l1,l2⟩,-⟩:=(bj ws).1 T.out;have B:=hid (λW=>CU (wd ws 16) (wd ws 17) (wd ws 18) W (by omega) (by omega) (by omega));have H:=hid (λh=>El HS.out h);have s:=hid (λh=>vt HS.out T.out h);have P:Bx wr (w.heap.size+1) 226 #[.int .i64 (wd ws 16:Int),.int .i64 (wd ws 17:Int),.int .i64 (wd ws 18:Int)]:=q;obtain⟨c0,X,c2,-⟩:=P.c3;obtain⟨q0,q1,q2,f0,Z,f2,K⟩:=f.c3;unfold phV at B s;obtain⟨x,M⟩:=xq (wd ws 16);obtain⟨y,hy⟩:=xq (wd ws 17);obtain⟨z,L⟩:=xq (wd ws 18);rw[M,hy,L] at B H s;rw[M] at c0;rw[hy] at X;rw[L] at c2;have G:=hid f;have HB:=hid C;clear f q P l0 l1 l2 M hy L;obtain⟨r,R⟩:=xq (sP x y z);rw[R] at B H s;clear R;go_wp2_with fail;refine (B.out _).mono ?_;rintro e w2 ⟨rfl,D⟩;rw[kqn] at D;have F:=au D;have b3:=hid (G.out.up F K);have n3:=Bx.of_new D;obtain⟨q0,q1,q2,f0,Z,f2,hgl2⟩:=b3.out.c3;obtain⟨n0,n1,n2,-⟩:=n3.c3;have U:=hid (HB.out.trans (F.mono HB.out.size));clear D F n3;by_cases p:r=0
 .have l:=hid (s.out p);subst p;go_wp2_with fail;refine kqv (v:=.tuple #[.agg #[.int .i64 (x:Int),.int .i64 (y:Int),.int .i64 (z:Int)],.int .i64 0]) (bi results102 _ (((b3.out.set_ 0 _).set_ 1 _).set_ 2 _) rfl rfl) rfl ⟨by rw[l.out.1,l.out.2],((U.out.setCell (by simp) _).setCell (by simp) _).setCell (by simp) _⟩
 have l:=hid (H.out p);have hrn:(r != 0)=true:=by rw[kqt];exact p
 clear p;go_wp2_with fail;refine kqv (v:=.tuple #[.agg #[.int .i64 0,.int .i64 0,.int .i64 0],.int .i64 50]) (bi results102 _ (((b3.out.set_ 0 _).set_ 1 _).set_ 2 _) rfl rfl) rfl ⟨by rw[l.out.1,l.out.2];rfl,((U.out.setCell (by simp) _).setCell (by simp) _).setCell (by simp) _⟩
def noAt (l:List Bk) (f:Nat) (k:Nat):Prop:=∀j,j<k->(gk l j).at_≠(f:Int)
theorem y9(l:List Bk)(f:Nat):noAt l f 0:=λj h=>absurd h (by omega)
theorem Cj(h:noAt l f k)(h2:(gk l k).at_≠(f:Int)):noAt l f (k+1):=λj hj=>by
 rcases kq9 j k with a|a
 .exact h j a
 .have:j=k:=by omega
  subst this;exact h2
theorem bd_no(hs:al (ws.length:Int)=true)(h:bU ws 128≠0)(f:Nat):oU ws f=false:=by
 unfold oU;cases a:blocks ws 128 with
 | none=>rfl
 | some l=>exact absurd (cj hs (gC hs) a).1 h
theorem bd_at(hb:blocks ws 128=some l)(hk:k<l.length)(h:(gk l k).at_=(f:Int)):oU ws f=true:=by unfold oU;rw[hb];simp only[kx7,kx1];refine .inl ⟨l[k],kqm hk,?_⟩;rw[bB l k hk] at h;rw[kqx];exact h
theorem bd_end(hb:blocks ws 128=some l)(h:noAt l f l.length):oU ws f=(f==ws.length):=by
 unfold oU;rw[hb];have:l.any (λb=>b.at_==(f:Int))=false:=by rw[kx5];intro b c;obtain⟨k,a,rfl⟩:=kqu c;have:=h k a;rw[bB l k a] at this;rw[kqx];exact this
 show (l.any (λb=>b.at_==(f:Int))||f==ws.length)=_;rw[this,Bool.false_or]
theorem vQ(A:Option Addr)(ws:List Nat)(c n f:Nat)(w:World)(hn:ws.length=n)(hs:al (n:Int)=true)(hr:RdW w w.heap.size A ws)(ho:∀x∈ws,x<18446744073709551616):
 Calls prog 103 #[.slice A n c,.int .i64 (f:Int)] w λe w'=>e=.returned (.bool (oU ws f))/\Below w.heap.size w w':=by
 subst hn;have F:=fP ws hs;have z:=hid (lG A ws c ws.length 128 w rfl (by omega) hr ho);unfold pM at z;have m:=hid (λh=>bd_no hs h f);have d:Hid (bU ws 128=0->blocks ws 128=some (aO ws 128)):=hid λh=>(BT h).2;have s:=gu ws 128;obtain⟨r,q⟩:=xq (bU ws 128);obtain⟨l,H⟩:=xq (aO ws 128);rw[q,H] at z d;rw[H] at s;rw[q] at m;clear q H hr ho hs F;by_cases j:r=0
 .subst j;have D:=hid (λk (h:k<l.length) V=>bd_at (d.out rfl) h V (f:=f));have G:=hid (λh=>bd_end (d.out rfl) (f:=f) h);clear m d;go_enter func103,ntmps103;go_wp2_with fail;refine z.out.mono ?_;rintro e I ⟨⟨X,W,rfl,u,-⟩,g⟩;have v:=g.size;have J:=hid u;clear u;go_wp2_with fail;go_loopw [18] (λi wr=>∃k:Nat,k<=l.length/\i=.int .i64 k/\Hid (noAt l f k)/\Below I.heap.size I wr) (λi _=>l.length-(intOf i).toNat)
  case atStart=>exact⟨0,kqy _,rfl,y9 l f,kql _ _⟩
  obtain⟨k,hk,rfl,L,t⟩:=hrel;have T:=t.size;by_cases o:k<l.length
  .obtain ⟨b,off,rfl,hbw,Q,P,M,R,S,N⟩:=RdB.at_ (J.out.below t) o;have C:=hid (λh=>Cj L.out h);have B:=hid (λh=>D.out k o h);rw[bB l k o] at C B;obtain⟨x,O⟩:=xq (l[k]);rw[O] at Q P M R S N C B;obtain⟨E,xs,xk,xt,xm,xn⟩:=x;dsimp only at Q P M R S N C B;have hlm:(k:Int)<(l.length:Int):=by omega
   clear O;by_cases a:E=(f:Int)
   .have U:(E==(f:Int))=true:=by rw[kqx];exact a
    have p:=hid (B.out a);clear a;go_wp2;go_ret;exact⟨by rw[p.out];rfl,g.trans ((t.alloc T _).mono v)⟩
   have U:(E==(f:Int))=false:=by rw[kqi];exact a
   have p:=hid (C.out a);clear a;go_wp2;go_roundw
   case rel=>exact⟨k+1,by omega,by go_num,p.out,t.alloc T _⟩
   case measure=>simp[intOf];omega
  have p:=hid (G.out (by have:=L.out;rwa [show k=l.length by omega] at this));have y:((f:Int)==(ws.length:Int))=(f==ws.length):=by rw[kzr,kqx,kqx];omega
  have K:=hid y;clear y;go_wp2;go_ret;exact⟨by rw[p.out,<-K.out];rfl,g.trans (t.mono v)⟩
 have hn1:(r != 0)=true:=by rw[kqt];exact j
 have p:=hid (m.out j);clear j m d;go_enter func103,ntmps103;go_wp2_with fail;refine z.out.mono ?_;rintro e I ⟨⟨X,W,rfl,-,-⟩,g⟩;go_wp2;go_ret;exact⟨by rw[p.out];rfl,g⟩
theorem ue(h:cy ws=r)(h0:r≠0):cC ws=r/\lnV ws=phV 0 0 0:=by subst h;simp[cC,lnV,h0]
theorem Dk(h:cy ws=0)(h1:wd ws 16=3)(h2:wd ws 17≠0)(h3:oU ws (wd ws 17)=false):cC ws=50/\lnV ws=phV 0 0 0:=by simp[cC,lnV,h,h1,h2,h3]
theorem D4(h:cy ws=0)(h3:wd ws 16=3->wd ws 17≠0->oU ws (wd ws 17)=true):cC ws=0/\lnV ws=phV (wd ws 16) (wd ws 17) (wd ws 18):=by
 have:cC ws=0:=by unfold cC;rw[if_pos h,if_neg];rintro ⟨a,b,c⟩;rw[h3 a b] at c;cases c
 simp[lnV,this]
theorem uX(A:Option Addr)(ws:List Nat)(c n:Nat)(w:World)(hn:ws.length=n)(hm:n<=9223372036854775807)(hc:n<=c)(D:RdW w w.heap.size A ws)(ho:∀x∈ws,x<18446744073709551616):
 Calls prog 55 #[.slice A n c] w λe w'=>e=.returned (.tuple #[lnV ws,.int .i64 (cC ws)])/\Below w.heap.size w w':=by
 subst hn;have HR:=hid D;have HO:=hid ho;clear D ho;have Z:=Bx.new w 107 #[.int .i64 0,.int .i64 0,.int .i64 0];cases P:al (ws.length:Int)
 .have H:=hid (bA P);have k:=hid (ue (rx P).1 (by omega));have l:=hid Z;clear P Z;go_enter func55,ntmps55;go_wp2_with fail;refine (aF A ws.length c _ hm).mono ?_;rintro e m ⟨rfl,rfl⟩;rw[H.out];go_wp2_with fail;refine kqv (v:=.tuple #[.agg #[.int .i64 0,.int .i64 0,.int .i64 0],.int .i64 8]) (bi results55 _ l.out rfl rfl) rfl ⟨by rw[k.out.1,k.out.2];rfl,(kql _ _).alloc (kqg _) _⟩
 have H:=hid (aW P);have HS:=hid P;have t:=hid (FL A ws c ws.length (w.alloc (.cells #[.int .i64 0,.int .i64 0,.int .i64 0] 107)) rfl hm hc ((HR.out.alloc (kqg _) _).more (by simp)) HO.out);rw[kqn] at t;have F:Hid (∀r,cy ws=r->r≠0->cC ws=r/\lnV ws=phV 0 0 0):=hid λr h h0=>ue h h0;have E:=qY ws;clear P Z;by_cases g:cy ws=0
 .have p:=hid (λh1 V h3=>Dk g h1 V h3);have f:=hid (λh1=>D4 g h1);obtain⟨g1,g2⟩:=ml HS.out (by have:=(fv g).2;rw[this.1,this.2];rfl);rw[g1,g2] at t;have B:=hid (λW (h:RdW W W.heap.size A ws)=>vQ A ws c ws.length (wd ws 17) W rfl HS.out h HO.out);unfold phV at t f;obtain⟨x,hx⟩:=xq (wd ws 16);obtain⟨y,X⟩:=xq (wd ws 17);obtain⟨z,hz⟩:=xq (wd ws 18);obtain⟨bd,T⟩:=xq (oU ws y);rw[hx,X,hz] at t f;rw[hx,X] at p;rw[X] at B;rw[T] at B p f;clear g g1 g2 hx X hz T F E;have U:∀(m:World),Below (w.heap.size+1) (w.alloc (.cells #[.int .i64 0,.int .i64 0,.int .i64 0] 107)) m->RdW (m.alloc (.cells #[.int .i64 (x:Int),.int .i64 (y:Int),.int .i64 (z:Int)] 107)) (m.alloc (.cells #[.int .i64 (x:Int),.int .i64 (y:Int),.int .i64 (z:Int)] 107)).heap.size A ws:=λm h=>by
   have V:=au h;exact ((HR.out.up V V.size).alloc (kqg _) _).more (by simp)
  have l:=hid U;clear U;by_cases C:x=3
  .have e1:((x:Int)==3)=true:=by rw[kqx];omega
   have Y:(x==3)=true:=by rw[kqx];exact C
   by_cases G:y=0
   .have e2:((y:Int) != 0)=false:=by rw[kqq];omega
    have e2n:(y != 0)=false:=by rw[kqq];exact G
    have k:=hid (f.out (λ_ h=>absurd G h));clear p f C G;go_enter func55,ntmps55;go_wp2_with fail;refine (aF A ws.length c _ hm).mono ?_;rintro e m ⟨rfl,rfl⟩;rw[H.out];go_wp2_with fail;refine t.out.mono ?_;rintro e m ⟨rfl,a⟩;have s:=hid (l.out _ a);have i:=Bx.of_new a;have d:=au a;have u:=hid i;have b:=hid d;obtain⟨O,L,J,N,M,K,q⟩:=i.c3;clear a d i;go_wp2_with fail;exact kqv (v:=.tuple #[.agg #[.int .i64 (x:Int),.int .i64 (y:Int),.int .i64 (z:Int)],.int .i64 0]) (bi results55 _ ((((u.out.set_ 0 _).set_ 1 _).set_ 2 _).alloc _) rfl rfl) rfl ⟨by rw[k.out.1,k.out.2],(((b.out.setCell (kqg _) _).setCell (kqg _) _).setCell (kqg _) _).alloc (by simp;exact b.out.size) _⟩
   have e2:((y:Int) != 0)=true:=by rw[kqt];omega
   have e2n:(y != 0)=true:=by rw[kqt];exact G
   cases bd
   .have k:=hid (p.out C G rfl);clear p f C G;go_enter func55,ntmps55;go_wp2_with fail;refine (aF A ws.length c _ hm).mono ?_;rintro e m ⟨rfl,rfl⟩;rw[H.out];go_wp2_with fail;refine t.out.mono ?_;rintro e m ⟨rfl,a⟩;have s:=hid (l.out _ a);have i:=Bx.of_new a;have d:=au a;have u:=hid i;have b:=hid d;obtain⟨O,L,J,N,M,K,q⟩:=i.c3;clear a d i;go_wp2_with fail;refine (B.out _ s.out).mono ?_;rintro e w2 ⟨rfl,j⟩;rw[kqn] at j;have R:=Bx.of_new j;have o:=au j;have S:=hid (u.out.up o q);have I:=hid (b.out.trans (o.mono b.out.size));obtain⟨O,L,J,N,M,K,Q⟩:=S.out.c3;obtain⟨n0,n1,n2',-⟩:=R.c3;clear j o R;go_wp2_with fail;exact kqv (v:=.tuple #[.agg #[.int .i64 0,.int .i64 0,.int .i64 0],.int .i64 50]) (bi results55 _ (((S.out.set_ 0 _).set_ 1 _).set_ 2 _) rfl rfl) rfl ⟨by rw[k.out.1,k.out.2];rfl,((I.out.setCell (kqg _) _).setCell (kqg _) _).setCell (kqg _) _⟩
   have k:=hid (f.out (λ_ _=>rfl));clear p f C G;go_enter func55,ntmps55;go_wp2_with fail;refine (aF A ws.length c _ hm).mono ?_;rintro e m ⟨rfl,rfl⟩;rw[H.out];go_wp2_with fail;refine t.out.mono ?_;rintro e m ⟨rfl,a⟩;have s:=hid (l.out _ a);have i:=Bx.of_new a;have d:=au a;have u:=hid i;have b:=hid d;obtain⟨O,L,J,N,M,K,q⟩:=i.c3;clear a d i;go_wp2_with fail;refine (B.out _ s.out).mono ?_;rintro e w2 ⟨rfl,j⟩;rw[kqn] at j;have R:=Bx.of_new j;have o:=au j;have S:=hid (u.out.up o q);have I:=hid (b.out.trans (o.mono b.out.size));obtain⟨O,L,J,N,M,K,Q⟩:=S.out.c3;obtain⟨n0,n1,n2',-⟩:=R.c3;clear j o R;go_wp2_with fail;exact kqv (v:=.tuple #[.agg #[.int .i64 (x:Int),.int .i64 (y:Int),.int .i64 (z:Int)],.int .i64 0]) (bi results55 _ (((S.out.set_ 0 _).set_ 1 _).set_ 2 _) rfl rfl) rfl ⟨by rw[k.out.1,k.out.2],((I.out.setCell (kqg _) _).setCell (kqg _) _).setCell (kqg _) _⟩
  have e1:((x:Int)==3)=false:=by rw[kqi];omega
  have Y:(x==3)=false:=by rw[kqi];exact C
  have k:=hid (f.out (λh=>absurd h C));clear p f C;go_enter func55,ntmps55;go_wp2_with fail;refine (aF A ws.length c _ hm).mono ?_;rintro e m ⟨rfl,rfl⟩;rw[H.out];go_wp2_with fail;refine t.out.mono ?_;rintro e m ⟨rfl,a⟩;have s:=hid (l.out _ a);have i:=Bx.of_new a;have d:=au a;have u:=hid i;have b:=hid d;obtain⟨O,L,J,N,M,K,q⟩:=i.c3;clear a d i;go_wp2_with fail;exact kqv (v:=.tuple #[.agg #[.int .i64 (x:Int),.int .i64 (y:Int),.int .i64 (z:Int)],.int .i64 0]) (bi results55 _ ((((u.out.set_ 0 _).set_ 1 _).set_ 2 _).alloc _) rfl rfl) rfl ⟨by rw[k.out.1,k.out.2],(((b.out.setCell (kqg _) _).setCell (kqg _) _).setCell (kqg _) _).alloc (by simp;exact b.out.size) _⟩
 obtain⟨r,D⟩:=xq (cy ws);have k:=hid (F.out r D (by rw[<-D];exact g));have hv:prV ws=phV 0 0 0:=by simp[prV,g]
 rw[D,hv] at t;rw[D] at g E;have hn1:(r != 0)=true:=by rw[kqt];exact g
 unfold phV at t;have l:Hid (∀m:World,Below (w.heap.size+1) (w.alloc (.cells #[.int .i64 0,.int .i64 0,.int .i64 0] 107)) m->True):=hid λ_ _=>trivial;clear g D F hv;go_enter func55,ntmps55;go_wp2_with fail;refine (aF A ws.length c _ hm).mono ?_;rintro e m ⟨rfl,rfl⟩;rw[H.out];go_wp2_with fail;refine t.out.mono ?_;rintro e m ⟨rfl,a⟩;have s:=hid (l.out _ a);have i:=Bx.of_new a;have d:=au a;have u:=hid i;have b:=hid d;obtain⟨O,L,J,N,M,K,q⟩:=i.c3;clear a d i;go_wp2_with fail;exact kqv (v:=.tuple #[.agg #[.int .i64 0,.int .i64 0,.int .i64 0],.int .i64 r]) (bi results55 _ ((((u.out.set_ 0 _).set_ 1 _).set_ 2 _).alloc _) rfl rfl) rfl ⟨by rw[k.out.1,k.out.2];rfl,(((b.out.setCell (kqg _) _).setCell (kqg _) _).setCell (kqg _) _).alloc (by simp;exact b.out.size) _⟩
theorem Fv(h:az (wd ws i)=false):mdOk ws i=false:=by unfold mdOk;rw[h,kxy]
theorem EF(h:az (wd ws i)=true):mdOk ws i=((ah (wd ws i)).kind==1&&(!(ah (wd ws i)).mark&&cD ws (ah (wd ws i)))):=by unfold mdOk;rw[h,kzx]
theorem Ii{x:Nat}(h:az x=true)(hk:(ah x).kind=1):(ah x).typ<8:=by unfold az at h;simp only[kqz] at h;have:=(bn _).1 h.1;omega
theorem Gs(A:Option Addr)(ws:List Nat)(c n t:Nat)(w:World)(hn:ws.length=n)(hm:n<=1000000)(h2:256<=n)(ht:t<=n)(hr:RdW w w.heap.size A ws)(ho:∀x∈ws,x<18446744073709551616):
 Calls prog 160 #[.slice A n c,.int .i64 (t:Int)] w λe w'=>e=.returned (.bool (mvd ws 128 t))/\Below w.heap.size w w':=by
 subst hn;have HR:=hid hr;have Jb:Hid (∀k,wd ws k<18446744073709551616):=hid (fd ho);obtain⟨b,D,rfl,hb,-⟩:=RdW.at_ hr (show 0<ws.length by omega);have Jc:Hid (∀k (h:k<ws.length) (W:World),Below w.heap.size w W->W.cell? ⟨b,D+k,none⟩=some (.int .u64 (wd ws k:Int))):=hid λk h W K=>by
  obtain⟨b',off',e',-,h0⟩:=RdW.at_ (Rd.below HR.out K) h;cases e';rw[<-ce] at h0;exact h0
 have Jz:=hid (λxa xs E (t:Nat) xm xn=>vd ws xa xs E t xm xn);clear hr ho;obtain⟨V,hV⟩:=xq (mvd ws 128 t);have HV:=hid hV;rw[hV];clear hV;go_enter func160,ntmps160;go_wp2_with fail;go_loopw [5] (λa wr=>∃i:Nat,128<=i/\i<=1000020/\a=.int .i64 i/\Hid (V=mvd ws i t)/\Below w.heap.size w wr) (λa _=>t-(intOf a).toNat)
 case atStart=>exact⟨128,by omega,by omega,rfl,hid HV.out.symm,kql _ _⟩
 obtain⟨i,hi,hi2,rfl,HI,K⟩:=hrel;have hz:=K.size;by_cases P:i<t
 .have j:=hid (λh=>sj (ws:=ws) (t:=t) P h);have M:=hid (λh=>ku (ws:=ws) (t:=t) P h);have Q:=hid (λh=>Fv (ws:=ws) (i:=i) h);have T:=hid (λh=>EF (ws:=ws) (i:=i) h);have R:=hid (λh hk=>Ii (x:=wd ws i) h hk);have g:=hid (λW=>mU (wd ws i) W (Jb.out i));have p0:=Jc.out i (by omega) _ K;have hit:(i:Int)<(t:Int):=by omega
  have hi0:(0:Int)<=(i:Int):=by omega
  have hin:(i:Int)<(ws.length:Int):=by omega
  have F:Hid (szAt ws i=(ah (wd ws i)).size.toNat):=hid rfl;have O:Hid (0<=(ah (wd ws i)).size/\(ah (wd ws i)).size<=65535/\0<=(ah (wd ws i)).typ):=hid (by
   have h1:wd ws i/65536%65536<65536:=kz3 _ (by omega);unfold ah;dsimp only;omega)
  have Ka:=hid (λh=>kZ (ws:=ws) (i:=i) h);obtain⟨x,hx⟩:=xq (wd ws i);rw[hx] at p0 Q T R g F O;clear hx;cases H:az x
  .rw[(ly H).1,(ly H).2] at g;unfold lN Bk.val at g;dsimp only at g;have C:=hid (HI.out.trans (j.out (Q.out H)));clear H j M Q T R;go_wp2_with fail;refine (g.out _).mono ?_;rintro e s ⟨rfl,o⟩;have f:=K.trans (o.mono hz);go_wp2;go_ret;exact⟨by rw[C.out];rfl,f.alloc f.size _⟩
  have HSO:=hid H;rw[(lB H).1,(lB H).2] at g;have d:=hid (T.out H);have v:=hid (λhk=>R.out H hk);clear H Q T R;obtain⟨y,hy⟩:=xq (ah x);have Jr:y.at_=0/\y.next=0:=by rw[<-hy];exact⟨rfl,rfl⟩
  rw[hy] at g d v F O;clear hy;obtain⟨xa,xs,E,xt,xm,xn⟩:=y;dsimp only at Jr d v F O;obtain⟨rfl,rfl⟩:=Jr;unfold Bk.val at g;dsimp only at g;by_cases q:E=1
  .have ek:(E != 1)=false:=by rw[kqq];exact q
   have ek2:(E==1)=true:=by rw[kqx];exact q
   have ht8:=v.out q;obtain⟨r1,r2,r3⟩:=O.out;obtain⟨u,rfl⟩:=kq5 r3;obtain⟨sz,rfl⟩:=kq5 r1;rw[kqk] at F;rw[ek2,kzx] at d;clear q v r1 r3;cases xm
   .rw[kvm,kzx,Jz.out] at d;have Jd:=Jb.out (96+2*u);have Jl:=Jb.out (96+2*u+1);have HC:=hid (λW=>pA (wd ws (96+2*u)) (wd ws (96+2*u+1)) W Jd Jl);have HK:=hid (mf (wd ws (96+2*u)) (wd ws (96+2*u+1)));have U:=kb (wd ws (96+2*u)) (wd ws (96+2*u+1));have S:=hid (kD (wd ws (96+2*u)) (wd ws (96+2*u+1)));have Jn:=hid (Jc.out (96+2*u) (by omega));have Jo:=hid (Jc.out (96+2*u+1) (by omega));obtain⟨I,Jg⟩:=xq (wd ws (96+2*u));obtain⟨G,Jj⟩:=xq (wd ws (96+2*u+1));rw[Jg] at Jn HC HK S U d;rw[Jj] at Jo HC HK S U d;clear Jg Jj Jd Jl;have t0:(0:Int)<=(u:Int):=by omega
    have s:IntKind.i64.wrap (2*(u:Int))=2*(u:Int):=kqr _ (by omega);have w2:IntKind.i64.wrap (96+2*(u:Int))=96+2*(u:Int):=kqr _ (by omega);have w3:IntKind.i64.wrap (96+2*(u:Int)+1)=96+2*(u:Int)+1:=kqr _ (by omega);have i1:(0:Int)<=96+2*(u:Int):=by omega
    have i2:(96:Int)+2*(u:Int)<(ws.length:Int):=by omega
    have i3:(0:Int)<=96+2*(u:Int)+1:=by omega
    have i4:(96:Int)+2*(u:Int)+1<(ws.length:Int):=by omega
    have n1:((96:Int)+2*(u:Int)).toNat=96+2*u:=by omega
    have n2:((96:Int)+2*(u:Int)+1).toNat=96+2*u+1:=by omega
    go_wp2_with fail;refine (g.out _).mono ?_;rintro e s ⟨rfl,o⟩;have f:=K.trans (o.mono hz);have B:=f.alloc f.size (.cells #[.int .i64 0,.int .i64 (sz:Int),.int .i64 E,.int .i64 (u:Int),.bool false,.int .u64 ((0:Nat):Int)] 55);have bx:=Bx.new s 55 #[.int .i64 0,.int .i64 (sz:Int),.int .i64 E,.int .i64 (u:Int),.bool false,.int .u64 ((0:Nat):Int)];have Ja:(s.alloc (.cells #[.int .i64 0,.int .i64 (sz:Int),.int .i64 E,.int .i64 (u:Int),.bool false,.int .u64 ((0:Nat):Int)] 55)).heap.size=s.heap.size+1:=by simp
    have hw1:=f.size;simp only[kzb] at bx B Ja;clear p0 o f;go_wp2_with fail;obtain⟨W0,Js⟩:∃W0,s.alloc (.cells #[.int .i64 0,.int .i64 (sz:Int),.int .i64 E,.int .i64 (u:Int),.bool false,.int .u64 0] 55)=W0:=⟨_,rfl⟩;rw[Js] at bx B Ja |-;clear Js;have h0:=Jn.out _ B;have h1:=Jo.out _ B;have b3:W0.cell? ⟨s.heap.size,3,none⟩=some (.int .i64 (u:Int)):=bx.cell 3;have Jf:b<W0.heap.size:=by omega
    have Jp:s.heap.size<W0.heap.size:=by omega
    have BX:=hid bx;have Jt:=hid B;clear bx B Ja
    go_region_held3 (λX:World=>X.cell? ⟨b,D+(96+2*u),none⟩=some (.int .u64 (I:Int))/\X.cell? ⟨b,D+(96+2*u+1),none⟩=some (.int .u64 (G:Int))/\X.cell? ⟨s.heap.size,3,none⟩=some (.int .i64 (u:Int))) (go_keep)
     (first | (go_at_call 117;refine (HC.out _).mono ?_;rintro e w5 ⟨⟨A1,c1,rfl,Jk,Jv⟩,J⟩;have m0:=(J.cell (p:=⟨b,D+(96+2*u),none⟩) Jf).trans h0;have m1:=(J.cell (p:=⟨b,D+(96+2*u+1),none⟩) Jf).trans h1;have m2:=(J.cell (p:=⟨s.heap.size,3,none⟩) Jp).trans b3;have Jw:=hid Jk;have Ji:=hid J;clear Jk Jv))
    have Y:=rY A1 (aX I G) c1 (aX I G).length w5.heap.size w5 rfl (by omega) Jw.out;have Jm:kSz (aX I G)=aP (aX I G).length:=by simp[kSz,S.out]
    rw[S.out,Jm] at Y;have l:=hid Y;have c1x:w5.cell? ⟨s.heap.size,1,none⟩=some (.int .i64 (sz:Int)):=(Ji.out.cell (p:=⟨s.heap.size,1,none⟩) Jp).trans (BX.out.cell 1);have Z:=hid (Jt.out.trans ((kql _ _).drew.trans (Ji.out.mono (by show _<=W0.heap.size;omega))));obtain⟨m,Je⟩:=xq ((aX I G).length);rw[Je] at d l U |-;have Ju:aP m<=10:=by unfold aP;omega
    obtain⟨z,Jq⟩:=xq (aP m);rw[Jq] at l d Ju;have L:Hid (dJ I G=if bN I G=true then 0 else 50):=hid rfl;obtain⟨r,hr⟩:=xq (dJ I G);obtain⟨ok,Jh⟩:=xq (bN I G);rw[hr] at L HK |-;rw[Jh] at L d HK;clear hr Jh Y Jm Je Jq m0 m1 m2 h0 h1 b3;cases ok
    .obtain rfl:r=50:=L.out;have C:=hid (HI.out.trans (j.out (by rw[d.out,kxy])));go_wp2_with fail;refine l.out.mono ?_;rintro e w6 ⟨rfl,rfl⟩;go_wp2;go_ret;exact⟨by rw[C.out];rfl,Z.out⟩
    obtain rfl:r=0:=L.out;rw[kzx] at d;by_cases N:sz=z
    .have ez:((sz:Int) != (z:Int))=false:=by rw[kqq];omega
     have ezn:(sz != z)=false:=by rw[kqq];exact N
     have Eq:mdOk ws i=true:=by rw[d.out,kqx];omega
     have C:=hid (HI.out.trans (M.out Eq));obtain⟨s2,-,s10⟩:=Ka.out Eq;rw[F.out] at C s2 s10;have hwr:IntKind.i64.wrap ((i:Int)+(sz:Int))=(i:Int)+(sz:Int):=kqr _ (by omega);clear N Eq;go_wp2_with fail;refine l.out.mono ?_;rintro e w6 ⟨rfl,rfl⟩;go_wp2;go_roundw
     case rel=>exact⟨i+sz,by omega,by omega,by rw[kju],C.out,Z.out⟩
     case measure=>simp[intOf];omega
    have ez:((sz:Int) != (z:Int))=true:=by rw[kqt];omega
    have ezn:(sz != z)=true:=by rw[kqt];exact N
    have C:=hid (HI.out.trans (j.out (by rw[d.out,kqi];omega)));clear N;go_wp2_with fail;refine l.out.mono ?_;rintro e w6 ⟨rfl,rfl⟩;go_wp2;go_ret;exact⟨by rw[C.out];rfl,Z.out⟩
   rw[kvo,kxy] at d;have C:=hid (HI.out.trans (j.out d.out));clear d j M;go_wp2_with fail;refine (g.out _).mono ?_;rintro e s ⟨rfl,o⟩;have f:=K.trans (o.mono hz);go_wp2;go_ret;exact⟨by rw[C.out];rfl,f.alloc f.size _⟩
  have ek:(E != 1)=true:=by rw[kqt];exact q
  have ek2:(E==1)=false:=by rw[kqi];exact q
  rw[ek2,kxy] at d;have C:=hid (HI.out.trans (j.out d.out));clear d j M q;go_wp2_with fail;refine (g.out _).mono ?_;rintro e s ⟨rfl,o⟩;have f:=K.trans (o.mono hz);go_wp2;go_ret;exact⟨by rw[C.out];rfl,f.alloc f.size _⟩
 have HE:=hid (HI.out.trans (jx (ws:=ws) (i:=i) (t:=t) (by omega)));have hdl:decide ((i:Int)<(t:Int))=false:=by rw[kqh];omega
 have hdln:decide (i<t)=false:=by rw[kqh];exact P
 have Jy:Hid (((i:Int)==(t:Int))=(i==t)):=hid (by rw[kzr,kqx,kqx];omega);clear P;go_wp2;go_ret;exact⟨by rw[HE.out,<-Jy.out];rfl,K⟩
theorem EK(h:cC ws=r)(h0:r≠0):av ws=r:=by subst h;simp[av,h0]
theorem lnV_no(h0:cC ws≠0):lnV ws=phV 0 0 0:=by simp[lnV,h0]
theorem Cu(h:cC ws=0)(h4:wd ws 16=4)(hm:mvd ws 128 (wd ws 18)=false):av ws=50:=by simp[av,h,h4,hm]
theorem Ei(h:cC ws=0)(h4:wd ws 16=4)(hm:mvd ws 128 (wd ws 18)=true):av ws=a9 ws (wd ws 17:Nat) (wd ws 18:Nat):=by simp[av,h,h4,hm]
theorem EG(h:cC ws=0)(h3:wd ws 16=3):av ws=a9 ws 128 128:=by simp[av,h,h3]
theorem CP(h:cC ws=0)(h3:wd ws 16<3):av ws=af ws:=by unfold av;rw[if_pos h,if_neg (by omega),if_neg (by omega)]
theorem uE(A:Option Addr)(ws:List Nat)(c n:Nat)(w:World)(hn:ws.length=n)(hm:n<=9223372036854775807)(hc:n<=c)(J:RdW w w.heap.size A ws)(ho:∀x∈ws,x<18446744073709551616):
 Calls prog 101 #[.slice A n c] w λe w'=>e=.returned (.tuple #[lnV ws,.int .i64 (av ws)])/\Below w.heap.size w w':=by
 subst hn;have HR:=hid J;have HO:=hid ho;clear J ho;have b0:=Bx.new w 107 #[.int .i64 0,.int .i64 0,.int .i64 0];have Z:=hid (uX A ws c ws.length (w.alloc (.cells #[.int .i64 0,.int .i64 0,.int .i64 0] 107)) rfl hm hc ((HR.out.alloc (kqg _) _).more (by simp)) HO.out);rw[kqn] at Z;by_cases h0:cC ws=0
 .obtain ⟨h1,h2⟩:=gz h0;obtain⟨hs,h3,h4⟩:=fv h1;obtain⟨⟨l0,l1,l2⟩,-⟩:=(bj ws).1 h3;have Jg:=fP ws hs;have Je:lnV ws=phV (wd ws 16) (wd ws 17) (wd ws 18):=by simp[lnV,h0]
  have Jl:wd ws 16<=4:=by rcases (cq _ _ _).1 h4 with h|h|h<;>omega
  have Jb:=hid (λW (h:RdW W W.heap.size A ws)=>Gs A ws c ws.length (wd ws 18) W rfl (by omega) (by omega) l2 h HO.out);have Jh:=hid (λ(f s:Int) hf hs W (h:RdW W W.heap.size A ws)=>qb A ws c ws.length f s W rfl hm hf hs h HO.out);have Ji:=hid (λW (h:RdW W W.heap.size A ws)=>lY A ws c ws.length W rfl hm h HO.out);have Jc:=hid h0;have P:=hid (λh4 hm=>Cu Jc.out h4 hm);have Q:=hid (λh4 hm=>Ei Jc.out h4 hm);have U:=hid (λh3=>EG Jc.out h3);have V:=hid (λh3=>CP Jc.out h3);have M:Hid (∀t:World,Below w.heap.size w t->RdW (t.alloc (.cells #[.int .i64 (wd ws 16:Int),.int .i64 (wd ws 17:Int),.int .i64 (wd ws 18:Int)] 107)) (t.alloc (.cells #[.int .i64 (wd ws 16:Int),.int .i64 (wd ws 17:Int),.int .i64 (wd ws 18:Int)] 107)).heap.size A ws):=hid λt h2=>((HR.out.up h2 h2.size).alloc (kqg _) _).more (by simp);rw[h0,Je] at Z;rw[Je];unfold phV at Z |-;have hlen2:ws.length<=2048:=Jg.2.1;clear h0 h1 h2 hs h3 h4 Je b0 Jg;obtain⟨x,hx⟩:=xq (wd ws 16);obtain⟨y,hy⟩:=xq (wd ws 17);obtain⟨z,hz⟩:=xq (wd ws 18);rw[hx] at Jl;rw[hx,hy,hz] at Z M |-;rw[hx,hz] at P;rw[hx,hy,hz] at Q;rw[hx] at U V;rw[hz] at Jb l2;rw[hy] at l1;clear hx hy hz l0;by_cases x4:x=4
  .have e4:((x:Int)==4)=true:=by rw[kqx];omega
   have e4n:(x==4)=true:=by rw[kqx];exact x4
   obtain⟨m,Jf⟩:=xq (mvd ws 128 z);rw[Jf] at Jb P Q;cases m
   .have K:=hid (P.out x4 rfl);clear P Q U V x4 Jf;go_enter func101,ntmps101;go_wp2_with fail;refine Z.out.mono ?_;rintro e t ⟨rfl,b⟩;have d:=au b;have j:=hid (M.out _ d);have G:=Bx.of_new b;have B1:=hid G;have k:=hid d;obtain⟨Y,q1,q2,f0,f1,f2,I⟩:=G.c3;clear b d G;go_wp2_with fail;have C:=Bx.new t 107 #[.int .i64 (x:Int),.int .i64 (y:Int),.int .i64 (z:Int)];have g:=k.out.alloc k.out.size (.cells #[.int .i64 (x:Int),.int .i64 (y:Int),.int .i64 (z:Int)] 107);have a:=B1.out.alloc (.cells #[.int .i64 (x:Int),.int .i64 (y:Int),.int .i64 (z:Int)] 107);obtain⟨o,D⟩:∃o,t.alloc (.cells #[.int .i64 (x:Int),.int .i64 (y:Int),.int .i64 (z:Int)] 107)=o:=⟨_,rfl⟩;rw[D] at C g a j |-;clear D Y q1 q2 f0 f1 f2;have N:=C.lt;have Ja:=a.lt;obtain⟨p0,p1,p2,-⟩:=C.c3;have BW:=hid C;have u:=hid g;have F:=hid a;clear C g a;go_quiet (fail);go_wp2_with fail;refine (Jb.out _ (show RdW (o.drewN _) (o.drewN _).heap.size A ws from j.out)).mono ?_;rintro e w2 ⟨rfl,Eq⟩;have l:=(jK (kql o.heap.size o) _).trans Eq;have BW2:=hid (BW.out.up l BW.out.lt);have T:=hid (F.out.up l F.out.lt);have Jd:=hid (u.out.trans (l.mono u.out.size));have Jj:=hid (j.out.up l l.size);obtain⟨p0,p1,p2,-⟩:=BW2.out.c3
    obtain⟨Y,q1,q2,f0,f1,f2,I⟩:=T.out.c3;clear Eq l;go_wp2_with fail;exact kqv (v:=.tuple #[.agg #[.int .i64 (x:Int),.int .i64 (y:Int),.int .i64 (z:Int)],.int .i64 50]) (bi results101 _ (((T.out.set_ 0 _).set_ 1 _).set_ 2 _) rfl rfl) rfl ⟨by rw[K.out],((Jd.out.setCell (kqg _) _).setCell (kqg _) _).setCell (kqg _) _⟩
   have K:=hid (Q.out x4 rfl);have O:=hid (λW h=>Jh.out (y:Int) (z:Int) (by omega) (by omega) W h);unfold xy at O;obtain⟨r,J⟩:∃r,a9 ws (y:Int) (z:Int)=r:=⟨_,rfl⟩;obtain⟨q,hq⟩:∃q,iE ws (y:Int) (z:Int)=q:=⟨_,rfl⟩;rw[J,hq] at O;rw[J] at K;clear P Q U V x4 Jf J hq;go_enter func101,ntmps101;go_wp2_with fail;refine Z.out.mono ?_;rintro e t ⟨rfl,b⟩;have d:=au b;have j:=hid (M.out _ d);have G:=Bx.of_new b;have B1:=hid G;have k:=hid d;obtain⟨Y,q1,q2,f0,f1,f2,I⟩:=G.c3;clear b d G;go_wp2_with fail;have C:=Bx.new t 107 #[.int .i64 (x:Int),.int .i64 (y:Int),.int .i64 (z:Int)];have g:=k.out.alloc k.out.size (.cells #[.int .i64 (x:Int),.int .i64 (y:Int),.int .i64 (z:Int)] 107);have a:=B1.out.alloc (.cells #[.int .i64 (x:Int),.int .i64 (y:Int),.int .i64 (z:Int)] 107);obtain⟨o,D⟩:∃o,t.alloc (.cells #[.int .i64 (x:Int),.int .i64 (y:Int),.int .i64 (z:Int)] 107)=o:=⟨_,rfl⟩;rw[D] at C g a j |-;clear D Y q1 q2 f0 f1 f2;have N:=C.lt;have Ja:=a.lt;obtain⟨p0,p1,p2,-⟩:=C.c3;have BW:=hid C;have u:=hid g;have F:=hid a;clear C g a;go_quiet (fail);go_wp2_with fail;refine (Jb.out _ (show RdW (o.drewN _) (o.drewN _).heap.size A ws from j.out)).mono ?_;rintro e w2 ⟨rfl,Eq⟩
   have l:=(jK (kql o.heap.size o) _).trans Eq;have BW2:=hid (BW.out.up l BW.out.lt);have T:=hid (F.out.up l F.out.lt);have Jd:=hid (u.out.trans (l.mono u.out.size));have Jj:=hid (j.out.up l l.size);obtain⟨p0,p1,p2,-⟩:=BW2.out.c3;obtain⟨Y,q1,q2,f0,f1,f2,I⟩:=T.out.c3;clear Eq l;go_wp2_with fail;refine (O.out _ Jj.out).mono ?_;rintro e w3 ⟨⟨A1,c1,rfl,-,-⟩,B⟩;have i:=(kql w2.heap.size w2).trans B;have L:=hid (BW2.out.up i BW2.out.lt);have E:=hid (T.out.up i T.out.lt);have R:=hid (Jd.out.trans (i.mono Jd.out.size));obtain⟨p0,p1,p2,-⟩:=L.out.c3;obtain⟨Y,q1,q2,f0,f1,f2,I⟩:=E.out.c3;clear B i;by_cases S:r=0
   .subst S;go_wp2_with fail;exact kqv (v:=.tuple #[.agg #[.int .i64 (x:Int),.int .i64 (y:Int),.int .i64 (z:Int)],.int .i64 0]) (bi results101 _ (((E.out.set_ 0 _).set_ 1 _).set_ 2 _) rfl rfl) rfl ⟨by rw[K.out],((R.out.setCell (kqg _) _).setCell (kqg _) _).setCell (kqg _) _⟩
   have Jk:(r != 0)=true:=by rw[kqt];exact S
   clear S;go_wp2_with fail;exact kqv (v:=.tuple #[.agg #[.int .i64 (x:Int),.int .i64 (y:Int),.int .i64 (z:Int)],.int .i64 r]) (bi results101 _ (((E.out.set_ 0 _).set_ 1 _).set_ 2 _) rfl rfl) rfl ⟨by rw[K.out],((R.out.setCell (kqg _) _).setCell (kqg _) _).setCell (kqg _) _⟩
  have e4:((x:Int)==4)=false:=by rw[kqi];omega
  have e4n:(x==4)=false:=by rw[kqi];exact x4
  by_cases x3:x=3
  .have e3:((x:Int)==3)=true:=by rw[kqx];omega
   have e3n:(x==3)=true:=by rw[kqx];exact x3
   have K:=hid (U.out x3);have O:=hid (λW h=>Jh.out 128 128 (by omega) (by omega) W h);unfold xy at O;obtain⟨r,J⟩:=xq (a9 ws 128 128);obtain⟨q,hq⟩:=xq (iE ws 128 128);rw[J,hq] at O;rw[J] at K;clear P Q U V x4 x3 J hq;go_enter func101,ntmps101;go_wp2_with fail;refine Z.out.mono ?_;rintro e t ⟨rfl,b⟩;have d:=au b;have j:=hid (M.out _ d);have G:=Bx.of_new b;have B1:=hid G;have k:=hid d;obtain⟨Y,q1,q2,f0,f1,f2,I⟩:=G.c3;clear b d G;go_wp2_with fail;have C:=Bx.new t 107 #[.int .i64 (x:Int),.int .i64 (y:Int),.int .i64 (z:Int)];have g:=k.out.alloc k.out.size (.cells #[.int .i64 (x:Int),.int .i64 (y:Int),.int .i64 (z:Int)] 107);have a:=B1.out.alloc (.cells #[.int .i64 (x:Int),.int .i64 (y:Int),.int .i64 (z:Int)] 107);obtain⟨o,D⟩:∃o,t.alloc (.cells #[.int .i64 (x:Int),.int .i64 (y:Int),.int .i64 (z:Int)] 107)=o:=⟨_,rfl⟩;rw[D] at C g a j |-;clear D Y q1 q2 f0 f1 f2;have N:=C.lt;have Ja:=a.lt;obtain⟨p0,p1,p2,-⟩:=C.c3;have BW:=hid C;have u:=hid g;have F:=hid a;clear C g a;refine (O.out _ j.out).mono ?_;rintro e w3 ⟨⟨A1,c1,rfl,-,-⟩,B⟩;have i:=(kql o.heap.size o).trans B;have L:=hid (BW.out.up i BW.out.lt);have E:=hid (F.out.up i F.out.lt);have R:=hid (u.out.trans (i.mono u.out.size));obtain⟨p0,p1,p2,-⟩:=L.out.c3;obtain⟨Y,q1,q2,f0,f1,f2,I⟩:=E.out.c3;clear B i;by_cases S:r=0
   .subst S;go_wp2_with fail;exact kqv (v:=.tuple #[.agg #[.int .i64 (x:Int),.int .i64 (y:Int),.int .i64 (z:Int)],.int .i64 0]) (bi results101 _ (((E.out.set_ 0 _).set_ 1 _).set_ 2 _) rfl rfl) rfl ⟨by rw[K.out],((R.out.setCell (kqg _) _).setCell (kqg _) _).setCell (kqg _) _⟩
   have Jk:(r != 0)=true:=by rw[kqt];exact S
   clear S;go_wp2_with fail;exact kqv (v:=.tuple #[.agg #[.int .i64 (x:Int),.int .i64 (y:Int),.int .i64 (z:Int)],.int .i64 r]) (bi results101 _ (((E.out.set_ 0 _).set_ 1 _).set_ 2 _) rfl rfl) rfl ⟨by rw[K.out],((R.out.setCell (kqg _) _).setCell (kqg _) _).setCell (kqg _) _⟩
  have e3:((x:Int)==3)=false:=by rw[kqi];omega
  have e3n:(x==3)=false:=by rw[kqi];exact x3
  have K:=hid (V.out (by omega));obtain⟨r,J⟩:=xq (af ws);rw[J] at Ji K;clear P Q U V x4 x3 J;go_enter func101,ntmps101;go_wp2_with fail;refine Z.out.mono ?_;rintro e t ⟨rfl,b⟩;have d:=au b;have j:=hid (M.out _ d);have G:=Bx.of_new b;have B1:=hid G;have k:=hid d;obtain⟨Y,q1,q2,f0,f1,f2,I⟩:=G.c3;clear b d G;go_wp2_with fail;have C:=Bx.new t 107 #[.int .i64 (x:Int),.int .i64 (y:Int),.int .i64 (z:Int)];have g:=k.out.alloc k.out.size (.cells #[.int .i64 (x:Int),.int .i64 (y:Int),.int .i64 (z:Int)] 107);have a:=B1.out.alloc (.cells #[.int .i64 (x:Int),.int .i64 (y:Int),.int .i64 (z:Int)] 107);obtain⟨o,D⟩:∃o,t.alloc (.cells #[.int .i64 (x:Int),.int .i64 (y:Int),.int .i64 (z:Int)] 107)=o:=⟨_,rfl⟩;rw[D] at C g a j |-;clear D Y q1 q2 f0 f1 f2;have N:=C.lt;have Ja:=a.lt;obtain⟨p0,p1,p2,-⟩:=C.c3;have BW:=hid C;have u:=hid g;have F:=hid a;clear C g a;have H:t.heap.size≠w.heap.size:=by omega
  go_region_held3 (λX:World=>X.cell? ⟨t.heap.size,0,none⟩=some (.int .i64 (x:Int))/\X.cell? ⟨t.heap.size,1,none⟩=some (.int .i64 (y:Int))/\X.cell? ⟨t.heap.size,2,none⟩=some (.int .i64 (z:Int))) (first | exact⟨(((L.out.far H _).far H _).far H _).cell 0,(((L.out.far H _).far H _).far H _).cell 1,(((L.out.far H _).far H _).far H _).cell 2⟩ | go_keep)
   (first | (go_at_call 162;refine (Ji.out _ (show RdW o.drew o.drew.heap.size A ws from j.out)).mono ?_;rintro e w3 ⟨rfl,B⟩;have m0:=(B.cell (p:=⟨t.heap.size,0,none⟩) N).trans p0;have m1:=(B.cell (p:=⟨t.heap.size,1,none⟩) N).trans p1;have m2:=(B.cell (p:=⟨t.heap.size,2,none⟩) N).trans p2;have i:Below o.heap.size o w3:=(kql o.heap.size o).drew.trans B;have E:=hid (F.out.up i Ja);have L:=hid (BW.out.up i N);have R:=hid (u.out.trans (i.mono u.out.size));clear B i;obtain⟨Y,q1,q2,f0,f1,f2,I⟩:=E.out.c3))
  go_wp2_with fail;exact kqv (v:=.tuple #[.agg #[.int .i64 (x:Int),.int .i64 (y:Int),.int .i64 (z:Int)],.int .i64 r]) (bi results101 _ (((E.out.set_ 0 _).set_ 1 _).set_ 2 _) rfl rfl) rfl ⟨by rw[K.out],((R.out.setCell (kqg _) _).setCell (kqg _) _).setCell (kqg _) _⟩
 have K:=hid (λr h=>EK (ws:=ws) (r:=r) h);rw[lnV_no h0] at Z |-;obtain⟨r,J⟩:=xq (cC ws);rw[J] at Z h0;have K:=hid (K.out r J h0);have Jk:(r != 0)=true:=by rw[kqt];exact h0
 unfold phV at Z |-;simp only[kzb] at Z |-;have M:Hid (∀t:World,Below w.heap.size w t->True):=hid λ_ _=>trivial;clear h0 J b0;go_enter func101,ntmps101;go_wp2_with fail;refine Z.out.mono ?_;rintro e t ⟨rfl,b⟩;have d:=au b;have j:=hid (M.out _ d);have G:=Bx.of_new b;have B1:=hid G;have k:=hid d;obtain⟨Y,q1,q2,f0,f1,f2,I⟩:=G.c3;clear b d G;go_wp2_with fail;exact kqv (v:=.tuple #[.agg #[.int .i64 0,.int .i64 0,.int .i64 0],.int .i64 r]) (bi results101 _ ((((B1.out.set_ 0 _).set_ 1 _).set_ 2 _).alloc _) rfl rfl) rfl ⟨by rw[K.out],(((k.out.setCell (kqg _) _).setCell (kqg _) _).setCell (kqg _) _).alloc (by simp;exact k.out.size) _⟩
theorem mD(A:Option Addr)(ws:List Nat)(c n:Nat)(w:World)(hn:ws.length=n)(hm:n<=9223372036854775807)(hc:n<=c)(hr:RdW w w.heap.size A ws)(ho:∀x∈ws,x<18446744073709551616):
 Calls prog 52 #[.slice A n c] w λe w'=>e=.returned (.int .i64 (av ws))/\Below w.heap.size w w':=by
 have d:=hid (uE A ws c n w hn hm hc hr ho);have f:∃x y z:Nat,lnV ws=phV x y z:=by
  unfold lnV;split
  .exact ⟨_,_,_,rfl⟩
  exact⟨0,0,0,rfl⟩
 obtain⟨x,y,z,f⟩:=f;rw[f] at d;unfold phV at d;obtain⟨r,b⟩:=xq (av ws);rw[b] at d |-;clear b f hr ho hn;go_enter func52,ntmps52;go_wp2_with fail;refine d.out.mono ?_;rintro e w1 ⟨rfl,a⟩;go_wp2;go_ret;exact⟨rfl,a.alloc a.size _⟩
theorem lfN_no(h:av ws≠0):lfN ws=0:=by simp[lfN,h]
theorem Gx(h:wd ws 16<3):lfN ws=0:=by simp[lfN,h]
theorem yC(h:av ws=0)(h2:¬ wd ws 16<3):lfN ws=(dG (aO ws (fR ws))).length:=by unfold lfN;rw[if_pos h,if_neg h2]
theorem kv(h:av ws=0):cC ws=0:=by
 unfold av at h;split at h
 .assumption
 exact h
theorem vv(hk:k<l.length):(dG (l.take (k+1))).length=(dG (l.take k)).length+(if l[k].mark=true then 1 else 0):=by rw[rE hk,kqw];split<;>rfl
theorem F4(A:Option Addr)(ws:List Nat)(c n:Nat)(w:World)(hn:ws.length=n)(hm:n<=9223372036854775807)(hc:n<=c)(D:RdW w w.heap.size A ws)(ho:∀x∈ws,x<18446744073709551616):
 Calls prog 164 #[.slice A n c] w λe w'=>e=.returned (.tuple #[.int .i64 (lfN ws:Nat),.int .i64 (av ws)])/\Below w.heap.size w w':=by
 subst hn;have p:=hid (uE A ws c ws.length w rfl hm hc D ho);have HR:=hid D;have HO:=hid ho;clear D ho;by_cases o:av ws=0
 .obtain ⟨h1,-⟩:=gz (kv o);obtain⟨hs,h3,h4⟩:=fv h1;obtain⟨⟨l0,l1,l2⟩,-⟩:=(bj ws).1 h3;have I:=fP ws hs;have F:lnV ws=phV (wd ws 16) (wd ws 17) (wd ws 18):=by simp[lnV,kv o]
  have j:=hid (λh=>Gx (ws:=ws) h);have f:=hid (λh=>yC o h);have v:=hid (λW (h:RdW W W.heap.size A ws)=>lG A ws c ws.length (fR ws) W rfl hm h HO.out);unfold pM at v;have Q:=gu ws (fR ws);have t:Hid (fR ws=if (wd ws 17:Int)<128 then 128 else (wd ws 17:Int)):=hid rfl;have H:Hid (∀u:World,Below w.heap.size w u->RdW (u.alloc (.cells #[.int .i64 (wd ws 16:Int),.int .i64 (wd ws 17:Int),.int .i64 (wd ws 18:Int)] 107)) (u.alloc (.cells #[.int .i64 (wd ws 16:Int),.int .i64 (wd ws 17:Int),.int .i64 (wd ws 18:Int)] 107)).heap.size A ws):=hid λu h2=>((HR.out.up h2 h2.size).alloc (kqg _) _).more (by simp);rw[o,F] at p;rw[o];unfold phV at p;have hlen2:ws.length<=2048:=I.2.1;clear o h1 hs h3 h4 F I;obtain⟨x,E⟩:=xq (wd ws 16);obtain⟨y,X⟩:=xq (wd ws 17);obtain⟨z,O⟩:=xq (wd ws 18);obtain⟨g,L⟩:=xq (fR ws);obtain⟨l,Z⟩:=xq (aO ws g);obtain⟨r,D⟩:=xq (bU ws g);obtain⟨N,hN⟩:=xq (lfN ws);rw[L,Z,D] at v;rw[hN] at j f |-;rw[L,Z] at f;rw[L,Z] at Q;rw[L,X] at t;rw[E,X,O] at p H;rw[E] at j f;rw[X] at l1;clear E X O L Z D hN l0 l2;by_cases C:x<3
  .have hd:decide ((x:Int)<3)=true:=by rw[kqo];omega
   have Jb:decide (x<3)=true:=by rw[kqo];exact C
   have R:=hid (j.out C);clear j f C t;go_enter func164,ntmps164;go_wp2_with fail;refine p.out.mono ?_;rintro e u ⟨rfl,a⟩;go_wp2;go_ret2;exact⟨by rw[R.out];rfl,a.alloc a.size _⟩
  have hd:decide ((x:Int)<3)=false:=by rw[kqh];omega
  have Jb:decide (x<3)=false:=by rw[kqh];exact C
  have R:=hid (f.out C);clear j f C;go_enter func164,ntmps164;go_wp2_with fail;refine p.out.mono ?_;rintro e u ⟨rfl,a⟩;have Ja:=hid (H.out _ a);have S:=hid a;clear a;go_wp2_with fail
  all_goals
   have U:Hid (∀q,g=q->∀W:World,RdW W W.heap.size A ws->Calls prog 65 #[.slice A ws.length c,.int .i64 q] W λe w'=>(∃A c,e=Ending.returned (.tuple #[.slice A l.length c,.int .i64 r])/\RdB w' w'.heap.size A l/\l.length<=c)/\Below W.heap.size W w'):=hid (λq hq=>by rw[<-hq];exact v.out);refine (U.out _ (by rw[t.out];first|rw[if_pos (by assumption)] | rw[if_neg (by omega)]) _ Ja.out).mono ?_;rintro e w2 ⟨⟨A1,c1,rfl,M,-⟩,s⟩;rw[kqn] at s;have V:=hid (S.out.trans ((au s).mono S.out.size));have Eq:=hid M;have Jc:=V.out.size;clear M s U;go_wp2_with fail;go_loopw [8,32] (λm i wr=>∃k:Nat,k<=l.length/\i=.int .i64 k/\m=.int .i64 ((dG (l.take k)).length:Nat)/\Below w2.heap.size w2 wr) (λ_ i _=>l.length-(intOf i).toNat)
   case atStart=>exact⟨0,kqy _,rfl,rfl,kql _ _⟩
   obtain⟨k,hk,rfl,rfl,K⟩:=hrel;have O:=K.size;by_cases P:k<l.length
   .obtain ⟨b,off,rfl,hbw,q0,q1,q2,q3,q4,q5⟩:=RdB.at_ (Eq.out.below K) P;have d:=hid (vv P);have G:=EH (l.take k);rw[kq6] at G;obtain⟨m,J⟩:=xq ((dG (l.take k)).length);rw[J] at d G |-;obtain⟨x',E⟩:∃x,l[k]=x:=⟨_,rfl⟩;rw[E] at q0 q1 q2 q3 q4 q5 d;obtain⟨xa,xs,xk,xt,xm,xn⟩:=x';dsimp only at q0 q1 q2 q3 q4 q5 d;have hlm:(k:Int)<(l.length:Int):=by omega
    have hmk:(m:Int)<=4611686018427387904:=by omega
    clear E J;cases xm
    .have B:=hid (d.out.trans (kxd m));clear d;go_wp2;go_roundw
     case rel=>exact⟨k+1,by omega,by go_num,by rw[B.out],K.alloc O _⟩
     case measure=>simp[intOf];omega
    have B:=hid (show (dG (l.take (k+1))).length=m+1 from d.out);clear d;go_wp2;go_roundw
    case rel=>exact⟨k+1,by omega,by go_num,by rw[B.out];go_num,K.alloc O _⟩
    case measure=>simp[intOf];omega
   rw[kzg (by omega)];rw[<-R.out];go_wp2;go_ret2;exact⟨rfl,V.out.trans (K.mono Jc)⟩
 have R:=hid (lfN_no o);have Y:∃x y z:Nat,lnV ws=phV x y z:=by
  unfold lnV;split
  .exact ⟨_,_,_,rfl⟩
  exact⟨0,0,0,rfl⟩
 obtain⟨x,y,z,Y⟩:=Y;rw[Y] at p;unfold phV at p;obtain⟨r,T⟩:=xq (av ws);rw[T] at p o |-;have hrn:(r != 0)=true:=by rw[kqt];exact o
 clear T Y o;go_enter func164,ntmps164;go_wp2_with fail;refine p.out.mono ?_;rintro e u ⟨rfl,a⟩;go_wp2;go_ret2;exact⟨by rw[R.out];rfl,a.alloc a.size _⟩
end Go.Proofs.YtpcajamacpbjcaaGreat
