import Derived.Test.YtpcajamacpbjcaaGreatZKMove
set_option maxHeartbeats 16000000
set_option maxRecDepth 100000
set_option linter.all false
namespace Go.Proofs.YtpcajamacpbjcaaGreat
variable {r:Int}{l:List Bk}{G:List Nat}{f i k t:Nat}
open Go.Proofs.Tryz
def lG (n:Nat):Bool:=decide (128<=n)&&(decide (n<=2048)&&n%2==0)
theorem a9(n:Nat):lG n=true↔128<=n/\n<=2048/\n%2=0:=by simp[lG]
def zh (p f t:Nat):Bool:=if p=4 then lG f&&(lG t&&decide (t<=f)) else if t≠0 then false else if p=3 then f==0||lG f else decide (p<3)&&f==0
theorem cy(p f t:Nat):zh p f t=true↔p=4/\lG f=true/\lG t=true/\t<=f\/p=3/\t=0/\(f=0\/lG f=true)\/p<3/\t=0/\f=0:=by
 unfold zh;split
 .rename_i h;subst h;simp
 rename_i h4;split
 .rename_i h;simp[h4,h]
 rename_i h;have a:t=0:=(by omega);subst a;split
 .rename_i h3;subst h3;simp
 rename_i h3;simp[h4,h3]
def jq (G:List Nat):Bool:=(decide (wd G 16<=G.length)&&(decide (wd G 17<=G.length)&&decide (wd G 18<=G.length)))&&(wd G 19==0&&(wd G 20==0&&(wd G 21==0&&(wd G 22==0&&wd G 23==0))))
def cK (G:List Nat):Int:=if am (G.length:Int)=true then (if (jq G&&zh (wd G 16) (wd G 17) (wd G 18))=true then 0 else 50) else 8
def phV (p f t:Nat):Value:=.agg #[.int .i64 (p:Int),.int .i64 (f:Int),.int .i64 (t:Int)]
def prV (G:List Nat):Value:=if cK G=0 then phV (wd G 16) (wd G 17) (wd G 18) else phV 0 0 0
theorem sy(h:am (G.length:Int)=false):cK G=8/\prV G=phV 0 0 0:=by simp[prV,cK,h]
theorem rt(h:am (G.length:Int)=true)(a:(jq G&&zh (wd G 16) (wd G 17) (wd G 18))=false):cK G=50/\prV G=phV 0 0 0:=by simp[prV,cK,h,a]
theorem mP(h:am (G.length:Int)=true)(a:(jq G&&zh (wd G 16) (wd G 17) (wd G 18))=true):cK G=0/\prV G=phV (wd G 16) (wd G 17) (wd G 18):=by simp[prV,cK,h,a]
theorem cR(h:cK G=0):am (G.length:Int)=true/\jq G=true/\zh (wd G 16) (wd G 17) (wd G 18)=true:=by
 unfold cK at h;split at h
 .split at h
  .rename_i h1 h2;simp only[kqs] at h2;exact⟨h1,h2⟩
  simp at h
 simp at h
theorem sX(G:List Nat):cK G=0\/cK G=8\/cK G=50:=by
 unfold cK;split
 .split<;>simp
 simp
theorem bo(G:List Nat):jq G=true↔(wd G 16<=G.length/\wd G 17<=G.length/\wd G 18<=G.length)/\wd G 19=0/\wd G 20=0/\wd G 21=0/\wd G 22=0/\wd G 23=0:=by simp[jq]
theorem DF(a:i<8)(h:i<3/\G.length<wd G (16+i)\/3<=i/\wd G (16+i)≠0):jq G=false:=by
 cases b:jq G with
 | false=>rfl
 | true =>
  obtain⟨⟨a0,a1,a2⟩,a3,a4,a5,a6,a7⟩:=(bo G).1 b;exfalso
  match i,a with
  | 0,_=>simp only[kxb] at h;omega
  | 1,_=>simp only[Nat.reduceAdd] at h;omega
  | 2,_=>simp only[Nat.reduceAdd] at h;omega
  | 3,_=>simp only[Nat.reduceAdd] at h;omega
  | 4,_=>simp only[Nat.reduceAdd] at h;omega
  | 5,_=>simp only[Nat.reduceAdd] at h;omega
  | 6,_=>simp only[Nat.reduceAdd] at h;omega
  | 7,_=>simp only[Nat.reduceAdd] at h;omega
def mU (G:List Nat) (f:Nat):Bool:=match blocks G 128 with
 | none=>false
 | some l=>l.any (λb=>b.at_==(f:Int))||f==G.length
def cJ (G:List Nat):Int:=if cK G=0 then (if wd G 16=3/\wd G 17≠0/\mU G (wd G 17)=false then 50 else 0) else cK G
def lnV (G:List Nat):Value:=if cJ G=0 then phV (wd G 16) (wd G 17) (wd G 18) else phV 0 0 0
theorem dN(h:cJ G=0):cK G=0/\(wd G 16=3->wd G 17≠0->mU G (wd G 17)=true):=by
 unfold cJ at h;split at h
 .rename_i h1;refine⟨h1,λa b=>?_⟩;split at h
  .simp at h
  rename_i h4;cases c:mU G (wd G 17) with
  | true=>rfl
  | false=>exact absurd ⟨a,b,c⟩ h4
 rename_i h1;exact absurd h h1
theorem z4(G:List Nat):cJ G=0\/cJ G=8\/cJ G=50:=by
 unfold cJ;split
 .split<;>simp
 exact sX G
def mdOk (G:List Nat) (i:Nat):Bool:=aD (wd G i)&&((aq (wd G i)).kind==1&&(!(aq (wd G i)).mark&&dm G (aq (wd G i))))
def uG (G:List Nat):Nat->Nat->Nat->Bool
 | 0,i,t=>i==t
 | f+1,i,t=>if i<t then mdOk G i&&uG G f (i+szAt G i) t else i==t
theorem kA(h:mdOk G i=true):2<=szAt G i/\szAt G i%2=0/\szAt G i<=10:=by unfold mdOk aD at h;simp only[kqs,kqw] at h;obtain⟨⟨a,-⟩,h2,-⟩:=h;have h3:=(bC _).1 a;have e:(aq (wd G i)).size=((szAt G i:Nat):Int):=rfl;omega
theorem ov :∀ {f i g:Nat},t-i<=f->t-i<=g->uG G f i t=uG G g i t:=by
 intro f
 induction f with
 | zero =>
  intro i g h a;cases g with
  | zero=>rfl
  | succ g=>simp only[uG];rw[if_neg (by omega)]
 | succ f c =>
  intro i g h a;cases g with
  | zero=>simp only[uG];rw[if_neg (by omega)]
  | succ g =>
   simp only[uG];split
   .cases b:mdOk G i with
    | false=>simp
    | true =>have:=kA b;rw[c (i:=i+szAt G i) (by omega) (g:=g) (by omega)]
   rfl
def mvd (G:List Nat) (i t:Nat):Bool:=uG G t i t
theorem jL(h:t<=i):mvd G i t=(i==t):=by unfold mvd;rw[ov (g:=0) (by omega) (by omega)];rfl
theorem kk(h:i<t)(a:mdOk G i=true):mvd G i t=mvd G (i+szAt G i) t:=by unfold mvd;have:=kA a;rw[ov (g:=t+1) (by omega) (by omega),uG,if_pos h,a,kzx]
theorem qX(h:i<t)(a:mdOk G i=false):mvd G i t=false:=by unfold mvd;rw[ov (g:=t+1) (by omega) (by omega),uG,if_pos h,a,kxh]
def aB (G:List Nat):Int:=if cJ G=0 then (if wd G 16=4 then (if mvd G 128 (wd G 18)=true then bh G (wd G 17:Nat) (wd G 18:Nat) else 50) else if wd G 16=3 then bh G 128 128 else ao G) else cJ G
def fY (G:List Nat):Int:=if (wd G 17:Int)<128 then 128 else (wd G 17:Int)
def lfN (G:List Nat):Nat:=if aB G=0 then (if wd G 16<3 then 0 else (fC (aS G (fY G))).length) else 0
open Go.RowKit
theorem Fz(n:Int):bits .and .i64 n 1=n%2:=by
 have b:(BitVec.ofInt 64 1).toNat=2 ^ 1-1:=(by decide);have a:(BitVec.ofInt 64 n &&& BitVec.ofInt 64 1).toNat=(n%((2 ^ 64:Nat):Int)).toNat%2 ^ 1:=by rw[BitVec.toNat_and,BitVec.toNat_ofInt,b,kx4]
 show IntKind.i64.wrap ((BitVec.ofInt 64 n &&& BitVec.ofInt 64 1).toNat:Nat)=n%2;rw[a,IntKind.wrap_i64];omega
theorem BQ(n:Nat)(w:World)(hn:n<=4611686018427387904):Calls prog 217 #[.int .i64 (n:Int)] w λe a=>e=.returned (.bool (lG n))/\w=a:=by
 have H:Hid (∀b:Bool,(b=true↔128<=n/\n<=2048/\n%2=0)->b=lG n):=y5 λb h=>by rw[kzk,a9,h]
 have ha:=Fz (n:Int);go_enter func217,ntmps217;go_wp2_with fail
 all_goals
  go_ret;exact⟨iL (H.out _ (by simp;omega)),rfl⟩
def tv (p f t:Nat):Int:=if zh p f t=true then 0 else 8
theorem Ek(p f t:Nat)(w:World)(hp:p<=4611686018427387904)(s:f<=4611686018427387904)(u:t<=4611686018427387904):
 Calls prog 163 #[phV p f t] w λe a=>e=.returned (.int .i64 (tv p f t))/\Below w.heap.size w a:=by
 obtain⟨i,j⟩:=yq0 (λW=>BQ f W s) (λW=>BQ t W u);have c:Hid (∀r:Int,r=(if (if p=4 then lG f&&(lG t&&decide (t<=f)) else if t≠0 then false else if p=3 then f==0||lG f else decide (p<3)&&f==0)=true then 0 else 8)->tv p f t=r):=y5 λr h=>by rw[h];rfl
 have a:=(kqe w.heap.size w).alloc (kqa _) (.cells #[.int .i64 (p:Int),.int .i64 (f:Int),.int .i64 (t:Int)] 107);have b:=y5 a;unfold phV;clear a;by_cases h:p=4
 .subst h;cases a:lG f
  .rw[a] at i;have d:=y5 (c.out 8 (by rw[if_pos rfl,a];rfl));clear c j a;(try simp only[kq1] at b |-);go_enter func163,ntmps163;go_wp2_with fail;refine (i.out _).mono ?_;rintro e l ⟨rfl,rfl⟩;go_wp2;go_ret;exact⟨by rw[d.out];rfl,b.out⟩
  cases g:lG t
  .rw[a] at i;rw[g] at j;have d:=y5 (c.out 8 (by rw[if_pos rfl,a,g];rfl));clear c a g;(try simp only[kq1] at b |-);go_enter func163,ntmps163;go_wp2_with fail;refine (i.out _).mono ?_;rintro e l ⟨rfl,rfl⟩;go_wp2_with fail;refine (j.out _).mono ?_;rintro e l ⟨rfl,rfl⟩;go_wp2;go_ret;exact⟨by rw[d.out];rfl,b.out⟩
  rw[a] at i;rw[g] at j;by_cases m:t<=f
  .have o:decide ((t:Int)<=(f:Int))=true:=(by rw[kqh];omega);have k:decide (t<=f)=true:=(by rw[kqh];omega);have d:=y5 (c.out 0 (by rw[if_pos rfl,a,g,k];rfl));clear c a g m;(try simp only[kq1] at b |-);go_enter func163,ntmps163;go_wp2_with fail;refine (i.out _).mono ?_;rintro e l ⟨rfl,rfl⟩;go_wp2_with fail;refine (j.out _).mono ?_;rintro e l ⟨rfl,rfl⟩;go_wp2;go_ret;exact⟨by rw[d.out];rfl,b.out⟩
  have o:decide ((t:Int)<=(f:Int))=false:=(by rw[kqb];omega);have k:decide (t<=f)=false:=(by rw[kqb];omega);have d:=y5 (c.out 8 (by rw[if_pos rfl,a,g,k];rfl));clear c a g m;(try simp only[kq1] at b |-);go_enter func163,ntmps163;go_wp2_with fail;refine (i.out _).mono ?_;rintro e l ⟨rfl,rfl⟩;go_wp2_with fail;refine (j.out _).mono ?_;rintro e l ⟨rfl,rfl⟩;go_wp2;go_ret;exact⟨by rw[d.out];rfl,b.out⟩
 have e4:((p:Int)==4)=false:=(by rw[kqc];omega);have e4n:(p==4)=false:=(by rw[kqc];omega);by_cases q:t=0
 .subst q;by_cases m:p=3
  .subst m;by_cases g:f=0
   .subst g;have d:=y5 (c.out 0 (by simp));clear c i j h;(try simp only[kq1] at b |-);go_enter func163,ntmps163;go_wp2;go_ret;exact⟨by rw[d.out];rfl,b.out⟩
   have r:((f:Int)==0)=false:=(by rw[kqc];omega);have n:(f==0)=false:=by rw[kqc];omega
   cases a:lG f
   .rw[a] at i;have d:=y5 (c.out 8 (by simp[a,g]));clear c j a h g;(try simp only[kq1] at b |-);go_enter func163,ntmps163;go_wp2_with fail;refine (i.out _).mono ?_;rintro e l ⟨rfl,rfl⟩;go_wp2;go_ret;exact⟨by rw[d.out];rfl,b.out⟩
   rw[a] at i;have d:=y5 (c.out 0 (by simp[a]));clear c j a h g;(try simp only[kq1] at b |-);go_enter func163,ntmps163;go_wp2_with fail;refine (i.out _).mono ?_;rintro e l ⟨rfl,rfl⟩;go_wp2;go_ret;exact⟨by rw[d.out];rfl,b.out⟩
  have e3:((p:Int)==3)=false:=(by rw[kqc];omega);have e3n:(p==3)=false:=(by rw[kqc];omega);have p0:(0:Int)<=(p:Int):=(by omega);by_cases l:p<3
  .have o:decide ((p:Int)<3)=true:=(by rw[kqh];omega);have k:decide (p<3)=true:=(by rw[kqh];omega);by_cases g:f=0
   .subst g;have d:=y5 (c.out 0 (by simp[h,m,l]));clear c i j h m l;(try simp only[kq1] at b |-);go_enter func163,ntmps163;go_wp2;go_ret;exact⟨by rw[d.out];rfl,b.out⟩
   have r:((f:Int)==0)=false:=(by rw[kqc];omega);have n:(f==0)=false:=(by rw[kqc];omega);have d:=y5 (c.out 8 (by simp[h,m,l,g]));clear c i j h m l g;(try simp only[kq1] at b |-);go_enter func163,ntmps163;go_wp2;go_ret;exact⟨by rw[d.out];rfl,b.out⟩
  have o:decide ((p:Int)<3)=false:=(by rw[kqb];omega);have k:decide (p<3)=false:=(by rw[kqb];omega);have d:=y5 (c.out 8 (by simp[h,m,l]));clear c i j h m l;(try simp only[kq1] at b |-);go_enter func163,ntmps163;go_wp2;go_ret;exact⟨by rw[d.out];rfl,b.out⟩
 have et:((t:Int) != 0)=true:=(by rw[kqx];omega);have etn:(t != 0)=true:=(by rw[kqx];omega);have d:=y5 (c.out 8 (by rw[if_neg h,if_pos q];rfl));clear c i j h q;(try simp only[kq1] at b |-);go_enter func163,ntmps163;go_wp2;go_ret;exact⟨by rw[d.out];rfl,b.out⟩
def tE (G:List Nat) (k:Nat):Array Value:=#[.int .i64 (if 0<k then (wd G 16:Int) else 0),.int .i64 (if 1<k then (wd G 17:Int) else 0),.int .i64 (if 2<k then (wd G 18:Int) else 0)]
theorem z5(G:List Nat)(a:k<3):(tE G k).setIfInBounds k (.int .i64 (wd G (16+k):Int))=tE G (k+1):=by
 match k,a with
 | 0,_=>rfl
 | 1,_=>rfl
 | 2,_=>rfl
theorem yc(G:List Nat)(hk:3<=k):tE G (k+1)=tE G k:=by unfold tE;rw[if_pos (by omega),if_pos (by omega),if_pos (by omega),if_pos (by omega),if_pos (by omega),if_pos (by omega)]
theorem yj(G:List Nat)(a:k<3):∃u,(tE G k)[k]? = some u:=by
 match k,a with
 | 0,_=>exact⟨_,rfl⟩
 | 1,_=>exact⟨_,rfl⟩
 | 2,_=>exact⟨_,rfl⟩
def okTo (G:List Nat) (k:Nat):Prop:=∀i,i<k->(i<3->wd G (16+i)<=G.length)/\(3<=i->wd G (16+i)=0)
theorem Bh(G:List Nat):okTo G 0:=λi h=>absurd h (by omega)
theorem zK(h:okTo G k)(b:(k<3->wd G (16+k)<=G.length)/\(3<=k->wd G (16+k)=0)):okTo G (k+1):=λi hi=>by
 rcases kq8 i k with a|a
 .exact h i a
 .have:i=k:=(by omega);subst this;exact b
theorem Aa(h:okTo G 8):jq G=true:=by rw[bo];exact⟨⟨(h 0 (by omega)).1 (by omega),(h 1 (by omega)).1 (by omega),(h 2 (by omega)).1 (by omega)⟩,(h 3 (by omega)).2 (by omega),(h 4 (by omega)).2 (by omega),(h 5 (by omega)).2 (by omega),(h 6 (by omega)).2 (by omega),(h 7 (by omega)).2 (by omega)⟩
theorem xC(h:am (G.length:Int)=true)(a:jq G=false):cK G=50/\prV G=phV 0 0 0:=rt h (by rw[a,kxh])
theorem FW(h:am (G.length:Int)=true)(a:tv (wd G 16) (wd G 17) (wd G 18)≠0):cK G=50/\prV G=phV 0 0 0:=rt h (by
 unfold tv at a;cases b:zh (wd G 16) (wd G 17) (wd G 18) with
 | false=>rw[kx6]
 | true=>rw[b] at a;exact absurd rfl a)
theorem yF(h:am (G.length:Int)=true)(b:jq G=true)(a:tv (wd G 16) (wd G 17) (wd G 18)=0):cK G=0/\prV G=phV (wd G 16) (wd G 17) (wd G 18):=mP h (by
 unfold tv at a;cases c:zh (wd G 16) (wd G 17) (wd G 18) with
 | true=>rw[b];rfl
 | false=>rw[c] at a;cases a)
theorem aY{fn:Func}{p q:Tmp}(h:fn.results=#[.cell p 107,.tmp q])(a:Array Value){W:World}{g:Nat}{t:TypeId}{v0 v1 v2 u:Value}(i:Bx W g t #[v0,v1,v2])(b:a.getD p undef=.pointer (some ⟨g,0,none⟩))(c:a.getD q undef=u):
 (results fn a).run prog W=.ok (.tuple #[.agg #[v0,v1,v2],u]) W:=by obtain⟨d,e,f,-⟩:=i.c3;rw[kxy] at b c;simp[results,h,b,c,go_sem,d,e,f]
theorem Iv(A:Option Addr)(G:List Nat)(c n:Nat)(w:World)(b:G.length=n)(X:n<=9223372036854775807)(hc:n<=c)(E:RdW w w.heap.size A G)(a:∀x∈G,x<2^64):
 Calls prog 102 #[.slice A n c] w λe d=>e=.returned (.tuple #[prV G,.int .i64 (cK G)])/\Below w.heap.size w d:=by
 subst b;obtain⟨V,Z⟩:=yq0 E a;clear E a;have f:=Bx.new w 107 #[.int .i64 0,.int .i64 0,.int .i64 0];cases d:am (G.length:Int)
 .obtain⟨g,j,a⟩:=yq1 (bQ d) (sy d) f;clear d f;go_enter func102,ntmps102;go_wp2_with fail;refine (aJ A G.length c _ X).mono ?_;rintro e l ⟨rfl,rfl⟩;rw[g.out];go_wp2_with fail;refine kqq (v:=.tuple #[.agg #[.int .i64 0,.int .i64 0,.int .i64 0],.int .i64 8]) (aY results102 _ a.out rfl rfl) rfl ⟨by rw[j.out.1,j.out.2];rfl,(kqe _ _).alloc (kqa _) _⟩
 have g:=y5 (aM d);obtain⟨hb1,s,-⟩:=dA G d;obtain⟨K,a⟩:=yq0 d f;obtain⟨b,U,rfl,hb,-⟩:=RdW.at_ V.out (show 0<G.length by omega);have Y:Hid (∀k (h:k<8) (W:World),Below w.heap.size w W->W.cell? ⟨b,U+16+k,none⟩=some (.int .u64 (wd G (16+k):Int))):=y5 λk h W q=>by
  obtain⟨b',off',i,-,z⟩:=RdW.at_ (Rd.below V.out q) (show 16+k<G.length by omega);cases i;rw[<-bY,<-kki] at z;exact z
 have J:Hid (∀k,wd G k<18446744073709551616):=y5 (fH Z.out);have hc24:(24:Int)<=(c:Int):=(by omega);have hc16:((c:Int)==16)=false:=(by rw[kqc];omega);have hc16n:(c==16)=false:=(by rw[kqc];omega);have hne:¬ c=16:=(by omega);clear d f;go_enter func102,ntmps102;go_wp2_with fail;refine (aJ _ G.length c _ X).mono ?_;rintro e l ⟨rfl,rfl⟩;rw[g.out];go_wp2_with fail;go_loopw [20] (λi wr=>∃k:Nat,k<=8/\i=.int .i64 k/\Hid (okTo G k)/\Bx wr w.heap.size 107 #[.int .i64 0,.int .i64 0,.int .i64 0]/\Bx wr (w.heap.size+1) 226 (tE G k)/\Below w.heap.size w wr) (λi _=>8-(intOf i).toNat)
 case atStart =>
  have d:=Bx.new (w.alloc (.cells #[.int .i64 0,.int .i64 0,.int .i64 0] 107)) 226 #[.int .i64 0,.int .i64 0,.int .i64 0];rw[kqm] at d;exact⟨0,kqv _,rfl,Bh G,a.out.alloc _,d,((kqe _ _).alloc (kqa _) _).alloc (by simp) _⟩
 obtain⟨k,hk,rfl,C,f,o,q⟩:=hrel;have hz:=q.size;by_cases D:k<8
 .have z:=Y.out k D _ q;have T:=J.out (16+k);obtain⟨i,g,a,m,l⟩:=yq3 (λh=>zK C.out h) (λh=>xC K.out (DF D h)) (λh=>z5 G (k:=k) h) (λh=>yc G (k:=k) h) (λh=>yj G (k:=k) h);obtain⟨x,B⟩:=xq (wd G (16+k));rw[B] at z T i g a;have hk1:(k:Int)<8:=(by omega);have hk0:(0:Int)<=(k:Int):=(by omega);have hx1:(0:Int)<=(x:Int):=(by omega);clear B;by_cases r:k<3
  .have R:decide ((k:Int)<3)=true:=(by rw[kqh];omega);have y:decide (k<3)=true:=(by rw[kqh];omega);obtain⟨u,S⟩:=l.out r;by_cases d:x<=G.length
   .have N:decide ((x:Int)<=(G.length:Int))=true:=(by rw[kqh];omega);have t:decide (x<=G.length)=true:=(by rw[kqh];omega);obtain⟨L,M⟩:=yq0 (i.out ⟨λ_=>d,λh=>absurd h (by omega)⟩) (a.out r);have F:=(o.cell k).trans S;have H:=o.frozen k;obtain⟨p,I⟩:=yq0 f o;have hxw:IntKind.i64.wrap (x:Int)=(x:Int):=kqo _ (by omega);clear i g a m l f o S d;go_wp2;go_roundw;exact⟨k+1,by omega,by go_num,L.out,p.out.far (by simp) _,by rw[<-M.out];exact I.out.set_ k _,q.setCell (by simp) _⟩;simp[intOf];omega
   have N:decide ((x:Int)<=(G.length:Int))=false:=(by rw[kqb];omega);have t:decide (x<=G.length)=false:=by rw[kqb];exact d
   obtain⟨j,p⟩:=yq0 (g.out (.inl ⟨r,by omega⟩)) f;obtain⟨N,F,O,P,H,Q,t⟩:=f.c3;clear i g a m l f o S d;go_wp2_with fail;refine kqq (v:=.tuple #[.agg #[.int .i64 0,.int .i64 0,.int .i64 0],.int .i64 50]) (aY results102 _ (((p.out.set_ 0 _).set_ 1 _).set_ 2 _) rfl rfl) rfl ⟨by rw[j.out.1,j.out.2];rfl,((q.setCell (by simp) _).setCell (by simp) _).setCell (by simp) _⟩
  have R:decide ((k:Int)<3)=false:=(by rw[kqb];omega);have y:decide (k<3)=false:=(by rw[kqb];omega);by_cases d:x=0
  .have y:((x:Int) != 0)=false:=(by rw[kqt];omega);have u:(x != 0)=false:=by rw[kqt];exact d
   obtain⟨L,M,p,I⟩:=yq2 (i.out ⟨λh=>absurd h r,λ_=>d⟩) (m.out (by omega)) f o;clear i g a m l f o d;go_wp2;go_roundw;exact⟨k+1,by omega,by go_num,L.out,p.out,by rw[M.out];exact I.out,q⟩;simp[intOf];omega
  have y:((x:Int) != 0)=true:=(by rw[kqx];omega);have u:(x != 0)=true:=by rw[kqx];exact d
  obtain⟨j,p⟩:=yq0 (g.out (.inr ⟨by omega,d⟩)) f;obtain⟨N,F,O,P,H,Q,t⟩:=f.c3;clear i g a m l f o d;go_wp2_with fail;refine kqq (v:=.tuple #[.agg #[.int .i64 0,.int .i64 0,.int .i64 0],.int .i64 50]) (aY results102 _ (((p.out.set_ 0 _).set_ 1 _).set_ 2 _) rfl rfl) rfl ⟨by rw[j.out.1,j.out.2];rfl,((q.setCell (by simp) _).setCell (by simp) _).setCell (by simp) _⟩
 obtain rfl:k=8:=(by omega);have l:=y5 (Aa C.out);obtain⟨⟨r,I,L⟩,-⟩:=(bo G).1 l.out;obtain⟨d,i,g⟩:=yq1 (λW=>Ek (wd G 16) (wd G 17) (wd G 18) W (by omega) (by omega) (by omega)) (λh=>FW K.out h) (λh=>yF K.out l.out h);have h:Bx wr (w.heap.size+1) 226 #[.int .i64 (wd G 16:Int),.int .i64 (wd G 17:Int),.int .i64 (wd G 18:Int)]:=o;obtain⟨N,F,O,-⟩:=h.c3;obtain⟨M,R,S,P,H,Q,t⟩:=f.c3;unfold phV at d g;obtain⟨x,B⟩:=xq (wd G 16);obtain⟨y,m⟩:=xq (wd G 17);obtain⟨z,a⟩:=xq (wd G 18);rw[B,m,a] at d i g;rw[B] at N;rw[m] at F;rw[a] at O;obtain⟨p,u⟩:=yq0 f q;clear f o h r I L B m a;obtain⟨r,E⟩:=xq (tv x y z);rw[E] at d i g;clear E;go_wp2_with fail;refine (d.out _).mono ?_;rintro e w2 ⟨rfl,a⟩;rw[kqm] at a;have s:=az a;have h:=y5 (p.out.up s t);have m:=Bx.of_new a;obtain⟨M,R,S,P,H,Q,hgl2⟩:=h.out.c3;obtain⟨n0,n1,n2,-⟩:=m.c3;have f:=yq7 u s;clear a s m;by_cases a:r=0
 .have j:=y5 (g.out a);subst a;go_wp2_with fail;refine kqq (v:=.tuple #[.agg #[.int .i64 (x:Int),.int .i64 (y:Int),.int .i64 (z:Int)],.int .i64 0]) (aY results102 _ (((h.out.set_ 0 _).set_ 1 _).set_ 2 _) rfl rfl) rfl ⟨by rw[j.out.1,j.out.2],((f.out.setCell (by simp) _).setCell (by simp) _).setCell (by simp) _⟩
 have j:=y5 (i.out a);have hrn:(r != 0)=true:=by rw[kqx];exact a
 clear a;go_wp2_with fail;refine kqq (v:=.tuple #[.agg #[.int .i64 0,.int .i64 0,.int .i64 0],.int .i64 50]) (aY results102 _ (((h.out.set_ 0 _).set_ 1 _).set_ 2 _) rfl rfl) rfl ⟨by rw[j.out.1,j.out.2];rfl,((f.out.setCell (by simp) _).setCell (by simp) _).setCell (by simp) _⟩
def noAt (l:List Bk) (f:Nat) (k:Nat):Prop:=∀j,j<k->(gk l j).at_≠(f:Int)
theorem zH(l:List Bk)(f:Nat):noAt l f 0:=λj h=>absurd h (by omega)
theorem Ag(h:noAt l f k)(b:(gk l k).at_≠(f:Int)):noAt l f (k+1):=λj hj=>by
 rcases kq8 j k with a|a
 .exact h j a
 .have:j=k:=(by omega);subst this;exact b
theorem bd_no(a:am (G.length:Int)=true)(h:cp G 128≠0)(f:Nat):mU G f=false:=by
 unfold mU;cases b:blocks G 128 with
 | none=>rfl
 | some l=>exact absurd (cC a (iQ a) b).1 h
theorem bd_at(b:blocks G 128=some l)(a:k<l.length)(h:(gk l k).at_=(f:Int)):mU G f=true:=by unfold mU;rw[b];simp only[kxw,kx1];refine .inl ⟨l[k],kqp a,?_⟩;rw[bG l k a] at h;rw[kqw];exact h
theorem bd_end(c:blocks G 128=some l)(h:noAt l f l.length):mU G f=(f==G.length):=by
 unfold mU;rw[c];have:l.any (λb=>b.at_==(f:Int))=false:=by rw[kkc];intro b d;obtain⟨k,a,rfl⟩:=kqy d;have:=h k a;rw[bG l k a] at this;rw[kqw];exact this
 show (l.any (λb=>b.at_==(f:Int))||f==G.length)=_;rw[this,Bool.false_or]
theorem xO(A:Option Addr)(G:List Nat)(c n f:Nat)(w:World)(a:G.length=n)(i:am (n:Int)=true)(m:RdW w w.heap.size A G)(k:∀x∈G,x<2^64):
 Calls prog 103 #[.slice A n c,.int .i64 (f:Int)] w λe b=>e=.returned (.bool (mU G f))/\Below w.heap.size w b:=by
 subst a;have b:=dA G i;have t:=y5 (ml A G c G.length 128 w rfl (by omega) m k);unfold qV at t;have j:=y5 (λh=>bd_no i h f);have d:Hid (cp G 128=0->blocks G 128=some (aS G 128)):=y5 λh=>(CX h).2;have p:=iP G 128;obtain⟨r,a⟩:=xq (cp G 128);obtain⟨l,g⟩:=xq (aS G 128);rw[a,g] at t d;rw[g] at p;rw[a] at j;clear a g m k i b;by_cases m:r=0
 .subst m;obtain⟨v,y⟩:=yq0 (λk (h:k<l.length) a=>bd_at (d.out rfl) h a (f:=f)) (λh=>bd_end (d.out rfl) (f:=f) h);clear j d;go_enter func103,ntmps103;go_wp2_with fail;refine t.out.mono ?_;rintro e B ⟨⟨M,N,rfl,a,-⟩,g⟩;have q:=g.size;have z:=y5 a;clear a;go_wp2_with fail;go_loopw [18] (λi wr=>∃k:Nat,k<=l.length/\i=.int .i64 k/\Hid (noAt l f k)/\Below B.heap.size B wr) (λi _=>l.length-(intOf i).toNat)
  case atStart=>exact⟨0,kqv _,rfl,zH l f,kqe _ _⟩
  obtain⟨k,hk,rfl,D,o⟩:=hrel;have E:=o.size;by_cases i:k<l.length
  .obtain ⟨b,off,rfl,hbw,F,H,I,J,K,L⟩:=RdB.at_ (z.out.below o) i;obtain⟨u,s⟩:=yq0 (λh=>Ag D.out h) (λh=>v.out k i h);rw[bG l k i] at u s;obtain⟨x,a⟩:=xq (l[k]);rw[a] at F H I J K L u s;obtain⟨C,xs,xk,xt,xm,xn⟩:=x;dsimp only at F H I J K L u s;have hlm:(k:Int)<(l.length:Int):=(by omega);clear a;by_cases a:C=(f:Int)
   .have O:(C==(f:Int))=true:=by rw[kqw];exact a
    have h:=y5 (s.out a);clear a;go_wp2;go_ret;exact⟨by rw[h.out];rfl,g.trans ((o.alloc E _).mono q)⟩
   have O:(C==(f:Int))=false:=by rw[kqc];exact a
   have h:=y5 (u.out a);clear a;go_wp2;go_roundw;exact⟨k+1,by omega,by go_num,h.out,o.alloc E _⟩;simp[intOf];omega
  have h:=y5 (y.out (by have:=D.out;rwa [show k=l.length by omega] at this));have a:((f:Int)==(G.length:Int))=(f==G.length):=by rw[kzk,kqw,kqw];omega
  have b:=y5 a;clear a;go_wp2;go_ret;exact⟨by rw[h.out,<-b.out];rfl,g.trans (o.mono q)⟩
 have hn1:(r != 0)=true:=by rw[kqx];exact m
 have h:=y5 (j.out m);clear m j d;go_enter func103,ntmps103;go_wp2_with fail;refine t.out.mono ?_;rintro e B ⟨⟨M,N,rfl,-,-⟩,g⟩;go_wp2;go_ret;exact⟨by rw[h.out];rfl,g⟩
theorem v8(h:cK G=r)(a:r≠0):cJ G=r/\lnV G=phV 0 0 0:=by subst h;simp[cJ,lnV,a]
theorem FY(h:cK G=0)(a:wd G 16=3)(b:wd G 17≠0)(c:mU G (wd G 17)=false):cJ G=50/\lnV G=phV 0 0 0:=by simp[cJ,lnV,h,a,b,c]
theorem Fe(h:cK G=0)(d:wd G 16=3->wd G 17≠0->mU G (wd G 17)=true):cJ G=0/\lnV G=phV (wd G 16) (wd G 17) (wd G 18):=by
 have:cJ G=0:=by unfold cJ;rw[if_pos h,if_neg];rintro ⟨a,b,c⟩;rw[d a b] at c;cases c
 simp[lnV,this]
theorem vH(A:Option Addr)(G:List Nat)(c n:Nat)(w:World)(b:G.length=n)(J:n<=9223372036854775807)(hc:n<=c)(C:RdW w w.heap.size A G)(a:∀x∈G,x<2^64):
 Calls prog 55 #[.slice A n c] w λe d=>e=.returned (.tuple #[lnV G,.int .i64 (cJ G)])/\Below w.heap.size w d:=by
 subst b;obtain⟨Z,Y⟩:=yq0 C a;clear C a;have b:=Bx.new w 107 #[.int .i64 0,.int .i64 0,.int .i64 0];cases a:am (G.length:Int)
 .obtain⟨H,l,k⟩:=yq1 (bQ a) (v8 (sy a).1 (by omega)) b;clear a b;go_enter func55,ntmps55;go_wp2_with fail;refine (aJ A G.length c _ J).mono ?_;rintro e m ⟨rfl,rfl⟩;rw[H.out];go_wp2_with fail;refine kqq (v:=.tuple #[.agg #[.int .i64 0,.int .i64 0,.int .i64 0],.int .i64 8]) (aY results55 _ k.out rfl rfl) rfl ⟨by rw[l.out.1,l.out.2];rfl,(kqe _ _).alloc (kqa _) _⟩
 obtain⟨H,HS,t⟩:=yq1 (aM a) a (Iv A G c G.length (w.alloc (.cells #[.int .i64 0,.int .i64 0,.int .i64 0] 107)) rfl J hc ((Z.out.alloc (kqa _) _).more (by simp)) Y.out);rw[kqm] at t;have I:Hid (∀r,cK G=r->r≠0->cJ G=r/\lnV G=phV 0 0 0):=y5 λr h d=>v8 h d;have D:=sX G;clear a b;by_cases j:cK G=0
 .obtain⟨o,f⟩:=yq0 (λa U b=>FY j a U b) (λa=>Fe j a);obtain⟨g,i⟩:=mP HS.out (by have:=(cR j).2;rw[this.1,this.2];rfl);rw[g,i] at t;have B:=y5 (λW (h:RdW W W.heap.size A G)=>xO A G c G.length (wd G 17) W rfl HS.out h Y.out);unfold phV at t f;obtain⟨x,d⟩:=xq (wd G 16);obtain⟨y,b⟩:=xq (wd G 17);obtain⟨z,p⟩:=xq (wd G 18);obtain⟨V,a⟩:=xq (mU G y);rw[d,b,p] at t f;rw[d,b] at o;rw[b] at B;rw[a] at B o f;clear j g i d b p a I D;have a:∀(m:World),Below (w.heap.size+1) (w.alloc (.cells #[.int .i64 0,.int .i64 0,.int .i64 0] 107)) m->RdW (m.alloc (.cells #[.int .i64 (x:Int),.int .i64 (y:Int),.int .i64 (z:Int)] 107)) (m.alloc (.cells #[.int .i64 (x:Int),.int .i64 (y:Int),.int .i64 (z:Int)] 107)).heap.size A G:=λm h=>by
   have U:=az h;exact ((Z.out.up U U.size).alloc (kqa _) _).more (by simp)
  have k:=y5 a;clear a;by_cases E:x=3
  .have e1:((x:Int)==3)=true:=(by rw[kqw];omega);have W:(x==3)=true:=by rw[kqw];exact E
   by_cases K:y=0
   .have p:((y:Int) != 0)=false:=(by rw[kqt];omega);have i:(y != 0)=false:=by rw[kqt];exact K
    have l:=y5 (f.out (λ_ h=>absurd K h));clear o f E K;go_enter func55,ntmps55;go_wp2_with fail;refine (aJ A G.length c _ J).mono ?_;rintro e m ⟨rfl,rfl⟩;rw[H.out];go_wp2_with fail;refine t.out.mono ?_;rintro e m ⟨rfl,a⟩;have q:=y5 (k.out _ a);have g:=Bx.of_new a;have d:=az a;obtain⟨u,b⟩:=yq0 g d;obtain⟨O,P,Q,L,M,N,s⟩:=g.c3;clear a d g;go_wp2_with fail;exact kqq (v:=.tuple #[.agg #[.int .i64 (x:Int),.int .i64 (y:Int),.int .i64 (z:Int)],.int .i64 0]) (aY results55 _ ((((u.out.set_ 0 _).set_ 1 _).set_ 2 _).alloc _) rfl rfl) rfl ⟨by rw[l.out.1,l.out.2],(((b.out.setCell (kqa _) _).setCell (kqa _) _).setCell (kqa _) _).alloc (by simp;exact b.out.size) _⟩
   have p:((y:Int) != 0)=true:=(by rw[kqx];omega);have i:(y != 0)=true:=by rw[kqx];exact K
   cases V
   .have l:=y5 (o.out E K rfl);clear o f E K;go_enter func55,ntmps55;go_wp2_with fail;refine (aJ A G.length c _ J).mono ?_;rintro e m ⟨rfl,rfl⟩;rw[H.out];go_wp2_with fail;refine t.out.mono ?_;rintro e m ⟨rfl,a⟩;have q:=y5 (k.out _ a);have g:=Bx.of_new a;have d:=az a;obtain⟨u,b⟩:=yq0 g d;obtain⟨O,P,Q,L,M,N,s⟩:=g.c3;clear a d g;go_wp2_with fail;refine (B.out _ q.out).mono ?_;rintro e w2 ⟨rfl,i⟩;rw[kqm] at i;have T:=Bx.of_new i;have p:=az i;have R:=y5 (u.out.up p s);have F:=yq7 b p;obtain⟨O,P,Q,L,M,N,S⟩:=R.out.c3;obtain⟨n0,n1,X,-⟩:=T.c3;clear i p T;go_wp2_with fail;exact kqq (v:=.tuple #[.agg #[.int .i64 0,.int .i64 0,.int .i64 0],.int .i64 50]) (aY results55 _ (((R.out.set_ 0 _).set_ 1 _).set_ 2 _) rfl rfl) rfl ⟨by rw[l.out.1,l.out.2];rfl,((F.out.setCell (kqa _) _).setCell (kqa _) _).setCell (kqa _) _⟩
   have l:=y5 (f.out (λ_ _=>rfl));clear o f E K;go_enter func55,ntmps55;go_wp2_with fail;refine (aJ A G.length c _ J).mono ?_;rintro e m ⟨rfl,rfl⟩;rw[H.out];go_wp2_with fail;refine t.out.mono ?_;rintro e m ⟨rfl,a⟩;have q:=y5 (k.out _ a);have g:=Bx.of_new a;have d:=az a;obtain⟨u,b⟩:=yq0 g d;obtain⟨O,P,Q,L,M,N,s⟩:=g.c3;clear a d g;go_wp2_with fail;refine (B.out _ q.out).mono ?_;rintro e w2 ⟨rfl,i⟩;rw[kqm] at i;have T:=Bx.of_new i;have p:=az i;have R:=y5 (u.out.up p s);have F:=yq7 b p;obtain⟨O,P,Q,L,M,N,S⟩:=R.out.c3;obtain⟨n0,n1,X,-⟩:=T.c3;clear i p T;go_wp2_with fail;exact kqq (v:=.tuple #[.agg #[.int .i64 (x:Int),.int .i64 (y:Int),.int .i64 (z:Int)],.int .i64 0]) (aY results55 _ (((R.out.set_ 0 _).set_ 1 _).set_ 2 _) rfl rfl) rfl ⟨by rw[l.out.1,l.out.2],((F.out.setCell (kqa _) _).setCell (kqa _) _).setCell (kqa _) _⟩
  have e1:((x:Int)==3)=false:=(by rw[kqc];omega);have W:(x==3)=false:=by rw[kqc];exact E
  have l:=y5 (f.out (λh=>absurd h E));clear o f E;go_enter func55,ntmps55;go_wp2_with fail;refine (aJ A G.length c _ J).mono ?_;rintro e m ⟨rfl,rfl⟩;rw[H.out];go_wp2_with fail;refine t.out.mono ?_;rintro e m ⟨rfl,a⟩;have q:=y5 (k.out _ a);have g:=Bx.of_new a;have d:=az a;obtain⟨u,b⟩:=yq0 g d;obtain⟨O,P,Q,L,M,N,s⟩:=g.c3;clear a d g;go_wp2_with fail;exact kqq (v:=.tuple #[.agg #[.int .i64 (x:Int),.int .i64 (y:Int),.int .i64 (z:Int)],.int .i64 0]) (aY results55 _ ((((u.out.set_ 0 _).set_ 1 _).set_ 2 _).alloc _) rfl rfl) rfl ⟨by rw[l.out.1,l.out.2],(((b.out.setCell (kqa _) _).setCell (kqa _) _).setCell (kqa _) _).alloc (by simp;exact b.out.size) _⟩
 obtain⟨r,C⟩:=xq (cK G);have l:=y5 (I.out r C (by rw[<-C];exact j));have f:prV G=phV 0 0 0:=by simp[prV,j]
 rw[C,f] at t;rw[C] at j D;have hn1:(r != 0)=true:=by rw[kqx];exact j
 unfold phV at t;have k:Hid (∀m:World,Below (w.heap.size+1) (w.alloc (.cells #[.int .i64 0,.int .i64 0,.int .i64 0] 107)) m->True):=y5 λ_ _=>trivial;clear j C I f;go_enter func55,ntmps55;go_wp2_with fail;refine (aJ A G.length c _ J).mono ?_;rintro e m ⟨rfl,rfl⟩;rw[H.out];go_wp2_with fail;refine t.out.mono ?_;rintro e m ⟨rfl,a⟩;have q:=y5 (k.out _ a);have g:=Bx.of_new a;have d:=az a;obtain⟨u,b⟩:=yq0 g d;obtain⟨O,P,Q,L,M,N,s⟩:=g.c3;clear a d g;go_wp2_with fail;exact kqq (v:=.tuple #[.agg #[.int .i64 0,.int .i64 0,.int .i64 0],.int .i64 r]) (aY results55 _ ((((u.out.set_ 0 _).set_ 1 _).set_ 2 _).alloc _) rfl rfl) rfl ⟨by rw[l.out.1,l.out.2];rfl,(((b.out.setCell (kqa _) _).setCell (kqa _) _).setCell (kqa _) _).alloc (by simp;exact b.out.size) _⟩
theorem Ho(h:aD (wd G i)=false):mdOk G i=false:=by unfold mdOk;rw[h,kxh]
theorem Fa(h:aD (wd G i)=true):mdOk G i=((aq (wd G i)).kind==1&&(!(aq (wd G i)).mark&&dm G (aq (wd G i)))):=by unfold mdOk;rw[h,kzx]
theorem H4{x:Nat}(h:aD x=true)(hk:(aq x).kind=1):(aq x).typ<8:=by unfold aD at h;simp only[kqs] at h;have:=(bC _).1 h.1;omega
theorem Jq(A:Option Addr)(G:List Nat)(c n t:Nat)(w:World)(b:G.length=n)(hm:n<=1000000)(h2:256<=n)(ht:t<=n)(Y:RdW w w.heap.size A G)(a:∀x∈G,x<2^64):
 Calls prog 160 #[.slice A n c,.int .i64 (t:Int)] w λe d=>e=.returned (.bool (mvd G 128 t))/\Below w.heap.size w d:=by
 subst b;have HR:=y5 Y;have Q:Hid (∀k,wd G k<18446744073709551616):=y5 (fH a);obtain⟨b,B,rfl,hb,-⟩:=RdW.at_ Y (show 0<G.length by omega);have O:Hid (∀k (h:k<G.length) (W:World),Below w.heap.size w W->W.cell? ⟨b,B+k,none⟩=some (.int .u64 (wd G k:Int))):=y5 λk h W K=>by
  obtain⟨b',off',d,-,h0⟩:=RdW.at_ (Rd.below HR.out K) h;cases d;rw[<-bY] at h0;exact h0
 have Kg:=y5 (λxa xs C (t:Nat) xm xn=>vq G xa xs C t xm xn);clear Y a;obtain⟨V,a⟩:=xq (mvd G 128 t);have HV:=y5 a;rw[a];clear a;go_enter func160,ntmps160;go_wp2_with fail;go_loopw [5] (λa wr=>∃i:Nat,128<=i/\i<=1000020/\a=.int .i64 i/\Hid (V=mvd G i t)/\Below w.heap.size w wr) (λa _=>t-(intOf a).toNat)
 case atStart=>exact⟨128,by omega,by omega,rfl,y5 HV.out.symm,kqe _ _⟩
 obtain⟨i,hi,hi2,rfl,P,K⟩:=hrel;have hz:=K.size;by_cases L:i<t
 .obtain⟨g,J,k,m,q,f⟩:=yq4 (λh=>qX (G:=G) (t:=t) L h) (λh=>kk (G:=G) (t:=t) L h) (λh=>Ho (G:=G) (i:=i) h) (λh=>Fa (G:=G) (i:=i) h) (λh r=>H4 (x:=wd G i) h r) (λW=>nc (wd G i) W (Q.out i));have p0:=O.out i (by omega) _ K;have hit:(i:Int)<(t:Int):=(by omega);have hi0:(0:Int)<=(i:Int):=(by omega);have hin:(i:Int)<(G.length:Int):=(by omega);have v:Hid (szAt G i=(aq (wd G i)).size.toNat):=y5 rfl;have I:Hid (0<=(aq (wd G i)).size/\(aq (wd G i)).size<=65535/\0<=(aq (wd G i)).typ):=y5 (by
   have h1:wd G i/65536%65536<65536:=kz3 _ (by omega);unfold aq;dsimp only;omega)
  have Kf:=y5 (λh=>kA (G:=G) (i:=i) h);obtain⟨x,a⟩:=xq (wd G i);rw[a] at p0 k m q f v I;clear a;cases h:aD x
  .rw[(mf h).1,(mf h).2] at f;unfold mt Bk.val at f;dsimp only at f;have s:=y5 (P.out.trans (g.out (k.out h)));clear h g J k m q;go_wp2_with fail;refine (f.out _).mono ?_;rintro e o ⟨rfl,j⟩;have d:=K.trans (j.mono hz);go_wp2;go_ret;exact⟨by rw[s.out];rfl,d.alloc d.size _⟩
  have HSO:=y5 h;rw[(kL h).1,(kL h).2] at f;obtain⟨a,l⟩:=yq0 (m.out h) (λr=>q.out h r);clear h k m q;obtain⟨y,h⟩:=xq (aq x);have Kc:y.at_=0/\y.next=0:=by rw[<-h];exact⟨rfl,rfl⟩
  rw[h] at f a l v I;clear h;obtain⟨xa,xs,C,xt,xm,xn⟩:=y;dsimp only at Kc a l v I;obtain⟨rfl,rfl⟩:=Kc;unfold Bk.val at f;dsimp only at f;by_cases k:C=1
  .have ek:(C != 1)=false:=by rw[kqt];exact k
   have R:(C==1)=true:=by rw[kqw];exact k
   have ht8:=l.out k;obtain⟨h,r2,m⟩:=I.out;obtain⟨u,rfl⟩:=kqz m;obtain⟨q,rfl⟩:=kqz h;rw[kqf] at v;rw[R,kzx] at a;clear k l h m;cases xm
   .rw[kvc,kzx,Kg.out] at a;have h:=Q.out (96+2*u);have r:=Q.out (96+2*u+1);obtain⟨HC,HK⟩:=yq0 (λW=>qs (wd G (96+2*u)) (wd G (96+2*u+1)) W h r) (mH (wd G (96+2*u)) (wd G (96+2*u+1)));have T:=ke (wd G (96+2*u)) (wd G (96+2*u+1));obtain⟨F,W,Z⟩:=yq1 (nC (wd G (96+2*u)) (wd G (96+2*u+1))) (O.out (96+2*u) (by omega)) (O.out (96+2*u+1) (by omega));obtain⟨D,m⟩:=xq (wd G (96+2*u));obtain⟨E,z⟩:=xq (wd G (96+2*u+1));rw[m] at W HC HK F T a;rw[z] at Z HC HK F T a;clear m z h r;have t0:(0:Int)<=(u:Int):=(by omega);have o:IntKind.i64.wrap (2*(u:Int))=2*(u:Int):=kqo _ (by omega);have w2:IntKind.i64.wrap (96+2*(u:Int))=96+2*(u:Int):=kqo _ (by omega);have w3:IntKind.i64.wrap (96+2*(u:Int)+1)=96+2*(u:Int)+1:=kqo _ (by omega);have i1:(0:Int)<=96+2*(u:Int):=(by omega);have i2:(96:Int)+2*(u:Int)<(G.length:Int):=(by omega);have i3:(0:Int)<=96+2*(u:Int)+1:=(by omega);have i4:(96:Int)+2*(u:Int)+1<(G.length:Int):=(by omega);have n1:((96:Int)+2*(u:Int)).toNat=96+2*u:=(by omega);have n2:((96:Int)+2*(u:Int)+1).toNat=96+2*u+1:=(by omega);go_wp2_with fail;refine (f.out _).mono ?_;rintro e o ⟨rfl,j⟩;have d:=K.trans (j.mono hz);have h:=d.alloc d.size (.cells #[.int .i64 0,.int .i64 (q:Int),.int .i64 C,.int .i64 (u:Int),.bool false,.int .u64 ((0:Nat):Int)] 55);have r:=Bx.new o 55 #[.int .i64 0,.int .i64 (q:Int),.int .i64 C,.int .i64 (u:Int),.bool false,.int .u64 ((0:Nat):Int)];have m:(o.alloc (.cells #[.int .i64 0,.int .i64 (q:Int),.int .i64 C,.int .i64 (u:Int),.bool false,.int .u64 ((0:Nat):Int)] 55)).heap.size=o.heap.size+1:=(by simp);have hw1:=d.size;simp only[kq1] at r h m;clear p0 j d;go_wp2_with fail;obtain⟨U,z⟩:∃U,o.alloc (.cells #[.int .i64 0,.int .i64 (q:Int),.int .i64 C,.int .i64 (u:Int),.bool false,.int .u64 0] 55)=U:=⟨_,rfl⟩;rw[z] at r h m |-;clear z;have h0:=W.out _ h;have h1:=Z.out _ h;have b3:U.cell? ⟨o.heap.size,3,none⟩=some (.int .i64 (u:Int)):=r.cell 3;have Eq:b<U.heap.size:=(by omega);have Ka:o.heap.size<U.heap.size:=(by omega);obtain⟨BX,Ke⟩:=yq0 r h;clear r h m
    go_region_held3 (λX:World=>X.cell? ⟨b,B+(96+2*u),none⟩=some (.int .u64 (D:Int))/\X.cell? ⟨b,B+(96+2*u+1),none⟩=some (.int .u64 (E:Int))/\X.cell? ⟨o.heap.size,3,none⟩=some (.int .i64 (u:Int))) (go_keep)
     (first | (go_at_call 117;refine (HC.out _).mono ?_;rintro e w5 ⟨⟨N,X,rfl,m,H⟩,h⟩;have m0:=(h.cell (p:=⟨b,B+(96+2*u),none⟩) Eq).trans h0;have m1:=(h.cell (p:=⟨b,B+(96+2*u+1),none⟩) Eq).trans h1;have m2:=(h.cell (p:=⟨o.heap.size,3,none⟩) Ka).trans b3;have z:=y5 m;have r:=y5 h;clear m H))
    have M:=uc N (bB D E) X (bB D E).length w5.heap.size w5 rfl (by omega) z.out;have S:kSz (bB D E)=bp (bB D E).length:=by simp[kSz,F.out]
    rw[F.out,S] at M;have h:=y5 M;have c1x:w5.cell? ⟨o.heap.size,1,none⟩=some (.int .i64 (q:Int)):=(r.out.cell (p:=⟨o.heap.size,1,none⟩) Ka).trans (BX.out.cell 1);have N:=y5 (Ke.out.trans ((kqe _ _).drew.trans (r.out.mono (by show _<=U.heap.size;omega))));obtain⟨m,X⟩:=xq ((bB D E).length);rw[X] at a h T |-;have Kh:bp m<=10:=by unfold bp;omega
    obtain⟨z,Kd⟩:=xq (bp m);rw[Kd] at h a Kh;have H:Hid (ff D E=if b8 D E=true then 0 else 50):=y5 rfl;obtain⟨r,Y⟩:=xq (ff D E);obtain⟨ok,Kb⟩:=xq (b8 D E);rw[Y] at H HK |-;rw[Kb] at H a HK;clear Y Kb M S X Kd m0 m1 m2 h0 h1 b3;cases ok
    .obtain rfl:r=50:=H.out;have s:=y5 (P.out.trans (g.out (by rw[a.out,kxh])));go_wp2_with fail;refine h.out.mono ?_;rintro e w6 ⟨rfl,rfl⟩;go_wp2;go_ret;exact⟨by rw[s.out];rfl,N.out⟩
    obtain rfl:r=0:=H.out;rw[kzx] at a;by_cases M:q=z
    .have ez:((q:Int) != (z:Int))=false:=(by rw[kqt];omega);have X:(q != z)=false:=by rw[kqt];exact M
     have S:mdOk G i=true:=by rw[a.out,kqw];omega
     have s:=y5 (P.out.trans (J.out S));obtain⟨s2,-,s10⟩:=Kf.out S;rw[v.out] at s s2 s10;have hwr:IntKind.i64.wrap ((i:Int)+(q:Int))=(i:Int)+(q:Int):=kqo _ (by omega);clear M S;go_wp2_with fail;refine h.out.mono ?_;rintro e w6 ⟨rfl,rfl⟩;go_wp2;go_roundw;exact⟨i+q,by omega,by omega,by rw[kjo],s.out,N.out⟩;simp[intOf];omega
    have ez:((q:Int) != (z:Int))=true:=(by rw[kqx];omega);have X:(q != z)=true:=by rw[kqx];exact M
    have s:=y5 (P.out.trans (g.out (by rw[a.out,kqc];omega)));clear M;go_wp2_with fail;refine h.out.mono ?_;rintro e w6 ⟨rfl,rfl⟩;go_wp2;go_ret;exact⟨by rw[s.out];rfl,N.out⟩
   rw[kvz,kxh] at a;have s:=y5 (P.out.trans (g.out a.out));clear a g J;go_wp2_with fail;refine (f.out _).mono ?_;rintro e o ⟨rfl,j⟩;have d:=K.trans (j.mono hz);go_wp2;go_ret;exact⟨by rw[s.out];rfl,d.alloc d.size _⟩
  have ek:(C != 1)=true:=by rw[kqx];exact k
  have R:(C==1)=false:=by rw[kqc];exact k
  rw[R,kxh] at a;have s:=y5 (P.out.trans (g.out a.out));clear a g J k;go_wp2_with fail;refine (f.out _).mono ?_;rintro e o ⟨rfl,j⟩;have d:=K.trans (j.mono hz);go_wp2;go_ret;exact⟨by rw[s.out];rfl,d.alloc d.size _⟩
 have d:=y5 (P.out.trans (jL (G:=G) (i:=i) (t:=t) (by omega)));have hdl:decide ((i:Int)<(t:Int))=false:=(by rw[kqb];omega);have hdln:decide (i<t)=false:=by rw[kqb];exact L
 have a:Hid (((i:Int)==(t:Int))=(i==t)):=y5 (by rw[kzk,kqw,kqw];omega);clear L;go_wp2;go_ret;exact⟨by rw[d.out,<-a.out];rfl,K⟩
theorem DK(h:cJ G=r)(a:r≠0):aB G=r:=by subst h;simp[aB,a]
theorem lnV_no(a:cJ G≠0):lnV G=phV 0 0 0:=by simp[lnV,a]
theorem FP(h:cJ G=0)(a:wd G 16=4)(b:mvd G 128 (wd G 18)=false):aB G=50:=by simp[aB,h,a,b]
theorem Dz(h:cJ G=0)(a:wd G 16=4)(b:mvd G 128 (wd G 18)=true):aB G=bh G (wd G 17:Nat) (wd G 18:Nat):=by simp[aB,h,a,b]
theorem Fv(h:cJ G=0)(a:wd G 16=3):aB G=bh G 128 128:=by simp[aB,h,a]
theorem FA(h:cJ G=0)(h3:wd G 16<3):aB G=ao G:=by unfold aB;rw[if_pos h,if_neg (by omega),if_neg (by omega)]
theorem we(A:Option Addr)(G:List Nat)(c n:Nat)(w:World)(d:G.length=n)(b:n<=9223372036854775807)(hc:n<=c)(H:RdW w w.heap.size A G)(a:∀x∈G,x<2^64):
 Calls prog 101 #[.slice A n c] w λe f=>e=.returned (.tuple #[lnV G,.int .i64 (aB G)])/\Below w.heap.size w f:=by
 subst d;obtain⟨HR,HO⟩:=yq0 H a;clear H a;have b0:=Bx.new w 107 #[.int .i64 0,.int .i64 0,.int .i64 0];have R:=y5 (vH A G c G.length (w.alloc (.cells #[.int .i64 0,.int .i64 0,.int .i64 0] 107)) rfl b hc ((HR.out.alloc (kqa _) _).more (by simp)) HO.out);rw[kqm] at R;by_cases h0:cJ G=0
 .obtain ⟨l,j⟩:=dN h0;obtain⟨k,d,g⟩:=cR l;obtain⟨⟨q,l1,l2⟩,-⟩:=(bo G).1 d;have i:=dA G k;have a:lnV G=phV (wd G 16) (wd G 17) (wd G 18):=by simp[lnV,h0]
  have Kh:wd G 16<=4:=by rcases (cy _ _ _).1 g with h|h|h<;>omega
  obtain⟨Kc,Kg,Ke,Kb⟩:=yq2 (λW (h:RdW W W.heap.size A G)=>Jq A G c G.length (wd G 18) W rfl (by omega) (by omega) l2 h HO.out) (λ(f s:Int) m k W (h:RdW W W.heap.size A G)=>ql A G c G.length f s W rfl b m k h HO.out) (λW (h:RdW W W.heap.size A G)=>mN A G c G.length W rfl b h HO.out) h0;obtain⟨L,M,S,T⟩:=yq2 (λg b=>FP Kb.out g b) (λg b=>Dz Kb.out g b) (λd=>Fv Kb.out d) (λd=>FA Kb.out d);have O:Hid (∀o:World,Below w.heap.size w o->RdW (o.alloc (.cells #[.int .i64 (wd G 16:Int),.int .i64 (wd G 17:Int),.int .i64 (wd G 18:Int)] 107)) (o.alloc (.cells #[.int .i64 (wd G 16:Int),.int .i64 (wd G 17:Int),.int .i64 (wd G 18:Int)] 107)).heap.size A G):=y5 λo j=>((HR.out.up j j.size).alloc (kqa _) _).more (by simp);rw[h0,a] at R;rw[a];unfold phV at R |-;have hlen2:G.length<=2048:=i.2.1;clear h0 l j k d g a b0 i;obtain⟨x,a⟩:=xq (wd G 16);obtain⟨y,d⟩:=xq (wd G 17);obtain⟨z,b⟩:=xq (wd G 18);rw[a] at Kh;rw[a,d,b] at R O |-;rw[a,b] at L;rw[a,d,b] at M;rw[a] at S T;rw[b] at Kc l2;rw[d] at l1;clear a d b q;by_cases x4:x=4
  .have e4:((x:Int)==4)=true:=(by rw[kqw];omega);have e4n:(x==4)=true:=by rw[kqw];exact x4
   obtain⟨m,j⟩:=xq (mvd G 128 z);rw[j] at Kc L M;cases m
   .have I:=y5 (L.out x4 rfl);clear L M S T x4 j;go_enter func101,ntmps101;go_wp2_with fail;refine R.out.mono ?_;rintro e o ⟨rfl,a⟩;have b:=az a;have i:=y5 (O.out _ b);have E:=Bx.of_new a;obtain⟨B1,g⟩:=yq0 E b;obtain⟨q0,q1,q2,V,Y,Z,F⟩:=E.c3;clear a b E;go_wp2_with fail;have t:=Bx.new o 107 #[.int .i64 (x:Int),.int .i64 (y:Int),.int .i64 (z:Int)];have f:=g.out.alloc g.out.size (.cells #[.int .i64 (x:Int),.int .i64 (y:Int),.int .i64 (z:Int)] 107);have d:=B1.out.alloc (.cells #[.int .i64 (x:Int),.int .i64 (y:Int),.int .i64 (z:Int)] 107);obtain⟨k,B⟩:∃k,o.alloc (.cells #[.int .i64 (x:Int),.int .i64 (y:Int),.int .i64 (z:Int)] 107)=k:=⟨_,rfl⟩;rw[B] at t f d i |-;clear B q0 q1 q2 V Y Z;have P:=t.lt;have Kd:=d.lt;obtain⟨p0,p1,p2,-⟩:=t.c3;obtain⟨BW,s,D⟩:=yq1 t f d;clear t f d;go_quiet (fail);go_wp2_with fail;refine (Kc.out _ (show RdW (k.drewN _) (k.drewN _).heap.size A G from i.out)).mono ?_;rintro e w2 ⟨rfl,Eq⟩;have l:=(cF (kqe k.heap.size k) _).trans Eq;obtain⟨X,U⟩:=yq0 (BW.out.up l BW.out.lt) (D.out.up l D.out.lt);have Ka:=yq7 s l;have Kf:=yq9 i l;obtain⟨p0,p1,p2,-⟩:=X.out.c3
    obtain⟨q0,q1,q2,V,Y,Z,F⟩:=U.out.c3;clear Eq l;go_wp2_with fail;exact kqq (v:=.tuple #[.agg #[.int .i64 (x:Int),.int .i64 (y:Int),.int .i64 (z:Int)],.int .i64 50]) (aY results101 _ (((U.out.set_ 0 _).set_ 1 _).set_ 2 _) rfl rfl) rfl ⟨by rw[I.out],((Ka.out.setCell (kqa _) _).setCell (kqa _) _).setCell (kqa _) _⟩
   obtain⟨I,N⟩:=yq0 (M.out x4 rfl) (λW h=>Kg.out (y:Int) (z:Int) (by omega) (by omega) W h);unfold xh at N;obtain⟨r,H⟩:∃r,bh G (y:Int) (z:Int)=r:=⟨_,rfl⟩;obtain⟨q,hq⟩:∃q,gQ G (y:Int) (z:Int)=q:=⟨_,rfl⟩;rw[H,hq] at N;rw[H] at I;clear L M S T x4 j H hq;go_enter func101,ntmps101;go_wp2_with fail;refine R.out.mono ?_;rintro e o ⟨rfl,a⟩;have b:=az a;have i:=y5 (O.out _ b);have E:=Bx.of_new a;obtain⟨B1,g⟩:=yq0 E b;obtain⟨q0,q1,q2,V,Y,Z,F⟩:=E.c3;clear a b E;go_wp2_with fail;have t:=Bx.new o 107 #[.int .i64 (x:Int),.int .i64 (y:Int),.int .i64 (z:Int)];have f:=g.out.alloc g.out.size (.cells #[.int .i64 (x:Int),.int .i64 (y:Int),.int .i64 (z:Int)] 107);have d:=B1.out.alloc (.cells #[.int .i64 (x:Int),.int .i64 (y:Int),.int .i64 (z:Int)] 107);obtain⟨k,B⟩:∃k,o.alloc (.cells #[.int .i64 (x:Int),.int .i64 (y:Int),.int .i64 (z:Int)] 107)=k:=⟨_,rfl⟩;rw[B] at t f d i |-;clear B q0 q1 q2 V Y Z;have P:=t.lt;have Kd:=d.lt;obtain⟨p0,p1,p2,-⟩:=t.c3;obtain⟨BW,s,D⟩:=yq1 t f d;clear t f d;go_quiet (fail);go_wp2_with fail;refine (Kc.out _ (show RdW (k.drewN _) (k.drewN _).heap.size A G from i.out)).mono ?_;rintro e w2 ⟨rfl,Eq⟩
   have l:=(cF (kqe k.heap.size k) _).trans Eq;obtain⟨X,U⟩:=yq0 (BW.out.up l BW.out.lt) (D.out.up l D.out.lt);have Ka:=yq7 s l;have Kf:=yq9 i l;obtain⟨p0,p1,p2,-⟩:=X.out.c3;obtain⟨q0,q1,q2,V,Y,Z,F⟩:=U.out.c3;clear Eq l;go_wp2_with fail;refine (N.out _ Kf.out).mono ?_;rintro e w3 ⟨⟨A1,c1,rfl,-,-⟩,u⟩;have j:=(kqe w2.heap.size w2).trans u;obtain⟨J,C⟩:=yq0 (X.out.up j X.out.lt) (U.out.up j U.out.lt);have K:=yq7 Ka j;obtain⟨p0,p1,p2,-⟩:=J.out.c3;obtain⟨q0,q1,q2,V,Y,Z,F⟩:=C.out.c3;clear u j;by_cases Q:r=0
   .subst Q;go_wp2_with fail;exact kqq (v:=.tuple #[.agg #[.int .i64 (x:Int),.int .i64 (y:Int),.int .i64 (z:Int)],.int .i64 0]) (aY results101 _ (((C.out.set_ 0 _).set_ 1 _).set_ 2 _) rfl rfl) rfl ⟨by rw[I.out],((K.out.setCell (kqa _) _).setCell (kqa _) _).setCell (kqa _) _⟩
   have U:(r != 0)=true:=by rw[kqx];exact Q
   clear Q;go_wp2_with fail;exact kqq (v:=.tuple #[.agg #[.int .i64 (x:Int),.int .i64 (y:Int),.int .i64 (z:Int)],.int .i64 r]) (aY results101 _ (((C.out.set_ 0 _).set_ 1 _).set_ 2 _) rfl rfl) rfl ⟨by rw[I.out],((K.out.setCell (kqa _) _).setCell (kqa _) _).setCell (kqa _) _⟩
  have e4:((x:Int)==4)=false:=(by rw[kqc];omega);have e4n:(x==4)=false:=by rw[kqc];exact x4
  by_cases l:x=3
  .have X:((x:Int)==3)=true:=(by rw[kqw];omega);have m:(x==3)=true:=by rw[kqw];exact l
   obtain⟨I,N⟩:=yq0 (S.out l) (λW h=>Kg.out 128 128 (by omega) (by omega) W h);unfold xh at N;obtain⟨r,H⟩:=xq (bh G 128 128);obtain⟨q,hq⟩:=xq (gQ G 128 128);rw[H,hq] at N;rw[H] at I;clear L M S T x4 l H hq;go_enter func101,ntmps101;go_wp2_with fail;refine R.out.mono ?_;rintro e o ⟨rfl,a⟩;have b:=az a;have i:=y5 (O.out _ b);have E:=Bx.of_new a;obtain⟨B1,g⟩:=yq0 E b;obtain⟨q0,q1,q2,V,Y,Z,F⟩:=E.c3;clear a b E;go_wp2_with fail;have t:=Bx.new o 107 #[.int .i64 (x:Int),.int .i64 (y:Int),.int .i64 (z:Int)];have f:=g.out.alloc g.out.size (.cells #[.int .i64 (x:Int),.int .i64 (y:Int),.int .i64 (z:Int)] 107);have d:=B1.out.alloc (.cells #[.int .i64 (x:Int),.int .i64 (y:Int),.int .i64 (z:Int)] 107);obtain⟨k,B⟩:∃k,o.alloc (.cells #[.int .i64 (x:Int),.int .i64 (y:Int),.int .i64 (z:Int)] 107)=k:=⟨_,rfl⟩;rw[B] at t f d i |-;clear B q0 q1 q2 V Y Z;have P:=t.lt;have Kd:=d.lt;obtain⟨p0,p1,p2,-⟩:=t.c3;obtain⟨BW,s,D⟩:=yq1 t f d;clear t f d;refine (N.out _ i.out).mono ?_;rintro e w3 ⟨⟨A1,c1,rfl,-,-⟩,u⟩;have j:=(kqe k.heap.size k).trans u;obtain⟨J,C⟩:=yq0 (BW.out.up j BW.out.lt) (D.out.up j D.out.lt);have K:=yq7 s j;obtain⟨p0,p1,p2,-⟩:=J.out.c3;obtain⟨q0,q1,q2,V,Y,Z,F⟩:=C.out.c3;clear u j;by_cases Q:r=0
   .subst Q;go_wp2_with fail;exact kqq (v:=.tuple #[.agg #[.int .i64 (x:Int),.int .i64 (y:Int),.int .i64 (z:Int)],.int .i64 0]) (aY results101 _ (((C.out.set_ 0 _).set_ 1 _).set_ 2 _) rfl rfl) rfl ⟨by rw[I.out],((K.out.setCell (kqa _) _).setCell (kqa _) _).setCell (kqa _) _⟩
   have U:(r != 0)=true:=by rw[kqx];exact Q
   clear Q;go_wp2_with fail;exact kqq (v:=.tuple #[.agg #[.int .i64 (x:Int),.int .i64 (y:Int),.int .i64 (z:Int)],.int .i64 r]) (aY results101 _ (((C.out.set_ 0 _).set_ 1 _).set_ 2 _) rfl rfl) rfl ⟨by rw[I.out],((K.out.setCell (kqa _) _).setCell (kqa _) _).setCell (kqa _) _⟩
  have X:((x:Int)==3)=false:=(by rw[kqc];omega);have m:(x==3)=false:=by rw[kqc];exact l
  have I:=y5 (T.out (by omega));obtain⟨r,H⟩:=xq (ao G);rw[H] at Ke I;clear L M S T x4 l H;go_enter func101,ntmps101;go_wp2_with fail;refine R.out.mono ?_;rintro e o ⟨rfl,a⟩;have b:=az a;have i:=y5 (O.out _ b);have E:=Bx.of_new a;obtain⟨B1,g⟩:=yq0 E b;obtain⟨q0,q1,q2,V,Y,Z,F⟩:=E.c3;clear a b E;go_wp2_with fail;have t:=Bx.new o 107 #[.int .i64 (x:Int),.int .i64 (y:Int),.int .i64 (z:Int)];have f:=g.out.alloc g.out.size (.cells #[.int .i64 (x:Int),.int .i64 (y:Int),.int .i64 (z:Int)] 107);have d:=B1.out.alloc (.cells #[.int .i64 (x:Int),.int .i64 (y:Int),.int .i64 (z:Int)] 107);obtain⟨k,B⟩:∃k,o.alloc (.cells #[.int .i64 (x:Int),.int .i64 (y:Int),.int .i64 (z:Int)] 107)=k:=⟨_,rfl⟩;rw[B] at t f d i |-;clear B q0 q1 q2 V Y Z;have P:=t.lt;have Kd:=d.lt;obtain⟨p0,p1,p2,-⟩:=t.c3;obtain⟨BW,s,D⟩:=yq1 t f d;clear t f d;have l:o.heap.size≠w.heap.size:=(by omega);go_region_held3 (λX:World=>X.cell? ⟨o.heap.size,0,none⟩=some (.int .i64 (x:Int))/\X.cell? ⟨o.heap.size,1,none⟩=some (.int .i64 (y:Int))/\X.cell? ⟨o.heap.size,2,none⟩=some (.int .i64 (z:Int))) (first | exact⟨(((J.out.far l _).far l _).far l _).cell 0,(((J.out.far l _).far l _).far l _).cell 1,(((J.out.far l _).far l _).far l _).cell 2⟩ | go_keep)
   (first | (go_at_call 162;refine (Ke.out _ (show RdW k.drew k.drew.heap.size A G from i.out)).mono ?_;rintro e w3 ⟨rfl,u⟩;have m0:=(u.cell (p:=⟨o.heap.size,0,none⟩) P).trans p0;have m1:=(u.cell (p:=⟨o.heap.size,1,none⟩) P).trans p1;have m2:=(u.cell (p:=⟨o.heap.size,2,none⟩) P).trans p2;have j:Below k.heap.size k w3:=(kqe k.heap.size k).drew.trans u;have C:=y5 (D.out.up j Kd);have J:=y5 (BW.out.up j P);have K:=yq7 s j;clear u j;obtain⟨q0,q1,q2,V,Y,Z,F⟩:=C.out.c3))
  go_wp2_with fail;exact kqq (v:=.tuple #[.agg #[.int .i64 (x:Int),.int .i64 (y:Int),.int .i64 (z:Int)],.int .i64 r]) (aY results101 _ (((C.out.set_ 0 _).set_ 1 _).set_ 2 _) rfl rfl) rfl ⟨by rw[I.out],((K.out.setCell (kqa _) _).setCell (kqa _) _).setCell (kqa _) _⟩
 have I:=y5 (λr h=>DK (G:=G) (r:=r) h);rw[lnV_no h0] at R |-;obtain⟨r,H⟩:=xq (cJ G);rw[H] at R h0;have I:=y5 (I.out r H h0);have U:(r != 0)=true:=by rw[kqx];exact h0
 unfold phV at R |-;simp only[kq1] at R |-;have O:Hid (∀o:World,Below w.heap.size w o->True):=y5 λ_ _=>trivial;clear h0 H b0;go_enter func101,ntmps101;go_wp2_with fail;refine R.out.mono ?_;rintro e o ⟨rfl,a⟩;have b:=az a;have i:=y5 (O.out _ b);have E:=Bx.of_new a;obtain⟨B1,g⟩:=yq0 E b;obtain⟨q0,q1,q2,V,Y,Z,F⟩:=E.c3;clear a b E;go_wp2_with fail;exact kqq (v:=.tuple #[.agg #[.int .i64 0,.int .i64 0,.int .i64 0],.int .i64 r]) (aY results101 _ ((((B1.out.set_ 0 _).set_ 1 _).set_ 2 _).alloc _) rfl rfl) rfl ⟨by rw[I.out],(((g.out.setCell (kqa _) _).setCell (kqa _) _).setCell (kqa _) _).alloc (by simp;exact g.out.size) _⟩
theorem r8(A:Option Addr)(G:List Nat)(c n:Nat)(w:World)(f:G.length=n)(j:n<=9223372036854775807)(i:n<=c)(h:RdW w w.heap.size A G)(g:∀x∈G,x<2^64):
 Calls prog 52 #[.slice A n c] w λe a=>e=.returned (.int .i64 (aB G))/\Below w.heap.size w a:=by
 have b:=y5 (we A G c n w f j i h g);have d:∃x y z:Nat,lnV G=phV x y z:=by
  unfold lnV;split
  .exact ⟨_,_,_,rfl⟩
  exact⟨0,0,0,rfl⟩
 obtain⟨x,y,z,d⟩:=d;rw[d] at b;unfold phV at b;obtain⟨r,a⟩:=xq (aB G);rw[a] at b |-;clear a d h g f;go_enter func52,ntmps52;go_wp2_with fail;refine b.out.mono ?_;rintro e w1 ⟨rfl,a⟩;go_wp2;go_ret;exact⟨rfl,a.alloc a.size _⟩
theorem lfN_no(h:aB G≠0):lfN G=0:=by simp[lfN,h]
theorem JG(h:wd G 16<3):lfN G=0:=by simp[lfN,h]
theorem Cl(h:aB G=0)(a:¬ wd G 16<3):lfN G=(fC (aS G (fY G))).length:=by unfold lfN;rw[if_pos h,if_neg a]
theorem jH(h:aB G=0):cJ G=0:=by
 unfold aB at h;split at h
 .assumption
 exact h
theorem yd(a:k<l.length):(fC (l.take (k+1))).length=(fC (l.take k)).length+(if l[k].mark=true then 1 else 0):=by rw[sE a,kqu];split<;>rfl
theorem Jz(A:Option Addr)(G:List Nat)(c n:Nat)(w:World)(b:G.length=n)(M:n<=9223372036854775807)(Y:n<=c)(t:RdW w w.heap.size A G)(a:∀x∈G,x<2^64):
 Calls prog 164 #[.slice A n c] w λe k=>e=.returned (.tuple #[.int .i64 (lfN G:Nat),.int .i64 (aB G)])/\Below w.heap.size w k:=by
 subst b;obtain⟨j,X,V⟩:=yq1 (we A G c G.length w rfl M Y t a) t a;clear t a;by_cases f:aB G=0
 .obtain ⟨i,-⟩:=dN (jH f);obtain⟨q,m,r⟩:=cR i;obtain⟨⟨v,Z,C⟩,-⟩:=(bo G).1 m;have a:=dA G q;have g:lnV G=phV (wd G 16) (wd G 17) (wd G 18):=by simp[lnV,jH f]
  obtain⟨d,b,p⟩:=yq1 (λh=>JG (G:=G) h) (λh=>Cl f h) (λW (h:RdW W W.heap.size A G)=>ml A G c G.length (fY G) W rfl M h V.out);unfold qV at p;have E:=iP G (fY G);have o:Hid (fY G=if (wd G 17:Int)<128 then 128 else (wd G 17:Int)):=y5 rfl;have B:Hid (∀s:World,Below w.heap.size w s->RdW (s.alloc (.cells #[.int .i64 (wd G 16:Int),.int .i64 (wd G 17:Int),.int .i64 (wd G 18:Int)] 107)) (s.alloc (.cells #[.int .i64 (wd G 16:Int),.int .i64 (wd G 17:Int),.int .i64 (wd G 18:Int)] 107)).heap.size A G):=y5 λs l=>((X.out.up l l.size).alloc (kqa _) _).more (by simp);rw[f,g] at j;rw[f];unfold phV at j;have hlen2:G.length<=2048:=a.2.1;clear f i q m r g a;obtain⟨x,u⟩:=xq (wd G 16);obtain⟨y,m⟩:=xq (wd G 17);obtain⟨z,I⟩:=xq (wd G 18);obtain⟨g,a⟩:=xq (fY G);obtain⟨l,i⟩:=xq (aS G g);obtain⟨r,t⟩:=xq (cp G g);obtain⟨N,q⟩:=xq (lfN G);rw[a,i,t] at p;rw[q] at d b |-;rw[a,i] at b;rw[a,i] at E;rw[a,m] at o;rw[u,m,I] at j B;rw[u] at d b;rw[m] at Z;clear u m I a i t q v C;by_cases i:x<3
  .have q:decide ((x:Int)<3)=true:=(by rw[kqh];omega);have m:decide (x<3)=true:=by rw[kqh];exact i
   have C:=y5 (d.out i);clear d b i o;go_enter func164,ntmps164;go_wp2_with fail;refine j.out.mono ?_;rintro e s ⟨rfl,a⟩;go_wp2;go_ret2;exact⟨by rw[C.out];rfl,a.alloc a.size _⟩
  have q:decide ((x:Int)<3)=false:=(by rw[kqb];omega);have m:decide (x<3)=false:=by rw[kqb];exact i
  have C:=y5 (b.out i);clear d b i;go_enter func164,ntmps164;go_wp2_with fail;refine j.out.mono ?_;rintro e s ⟨rfl,a⟩;obtain⟨K,v⟩:=yq0 (B.out _ a) a;clear a;go_wp2_with fail
  all_goals
   have d:Hid (∀q,g=q->∀W:World,RdW W W.heap.size A G->Calls prog 65 #[.slice A G.length c,.int .i64 q] W λe k=>(∃A c,e=Ending.returned (.tuple #[.slice A l.length c,.int .i64 r])/\RdB k k.heap.size A l/\l.length<=c)/\Below W.heap.size W k):=y5 (λq b=>by rw[<-b];exact p.out);refine (d.out _ (by rw[o.out];first|rw[if_pos (by assumption)] | rw[if_neg (by omega)]) _ K.out).mono ?_;rintro e U ⟨⟨A1,c1,rfl,i,-⟩,b⟩;rw[kqm] at b;obtain⟨q,J⟩:=yq0 (v.out.trans ((az b).mono v.out.size)) i;have L:=q.out.size;clear i b d;go_wp2_with fail;go_loopw [8,32] (λm i wr=>∃k:Nat,k<=l.length/\i=.int .i64 k/\m=.int .i64 ((fC (l.take k)).length:Nat)/\Below U.heap.size U wr) (λ_ i _=>l.length-(intOf i).toNat)
   case atStart=>exact⟨0,kqv _,rfl,rfl,kqe _ _⟩
   obtain⟨k,hk,rfl,rfl,D⟩:=hrel;have I:=D.size;by_cases F:k<l.length
   .obtain ⟨b,off,rfl,hbw,O,P,Q,R,S,T⟩:=RdB.at_ (J.out.below D) F;have d:=y5 (yd F);have H:=FQ (l.take k);rw[kq6] at H;obtain⟨m,i⟩:=xq ((fC (l.take k)).length);rw[i] at d H |-;obtain⟨W,u⟩:=xq (l[k]);rw[u] at O P Q R S T d;obtain⟨xa,xs,xk,xt,xm,xn⟩:=W;dsimp only at O P Q R S T d;have hlm:(k:Int)<(l.length:Int):=(by omega);have hmk:(m:Int)<=4611686018427387904:=(by omega);clear u i;cases xm
    .have i:=y5 (d.out.trans (kxb m));clear d;go_wp2;go_roundw;exact⟨k+1,by omega,by go_num,by rw[i.out],D.alloc I _⟩;simp[intOf];omega
    have i:=y5 (show (fC (l.take (k+1))).length=m+1 from d.out);clear d;go_wp2;go_roundw;exact⟨k+1,by omega,by go_num,by rw[i.out];go_num,D.alloc I _⟩;simp[intOf];omega
   rw[kza (by omega)];rw[<-C.out];go_wp2;go_ret2;exact⟨rfl,q.out.trans (D.mono L)⟩
 have C:=y5 (lfN_no f);have d:∃x y z:Nat,lnV G=phV x y z:=by
  unfold lnV;split
  .exact ⟨_,_,_,rfl⟩
  exact⟨0,0,0,rfl⟩
 obtain⟨x,y,z,d⟩:=d;rw[d] at j;unfold phV at j;obtain⟨r,b⟩:=xq (aB G);rw[b] at j f |-;have hrn:(r != 0)=true:=by rw[kqx];exact f
 clear b d f;go_enter func164,ntmps164;go_wp2_with fail;refine j.out.mono ?_;rintro e s ⟨rfl,a⟩;go_wp2;go_ret2;exact⟨by rw[C.out];rfl,a.alloc a.size _⟩
end Go.Proofs.YtpcajamacpbjcaaGreat
