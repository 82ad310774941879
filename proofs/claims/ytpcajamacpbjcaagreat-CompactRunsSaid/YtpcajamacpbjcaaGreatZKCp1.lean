import Derived.Test.YtpcajamacpbjcaaGreatZKStg3
import Derived.Test.YtpcajamacpbjcaaGreatZKR19
set_option maxHeartbeats 16000000
set_option linter.all false
namespace Go.Proofs.YtpcajamacpbjcaaGreat
open Go.RowKit
variable {b:Bk}{r:Int}{l:List Bk}{E:List En}{G x xs ys:List Nat}{F T a c f i j k m m' p t v:Nat}
theorem Ip(h:cK x=0)(a:wd x 16≠3):cJ x=0:=by unfold cJ;rw[if_pos h,if_neg (λh=>a h.1)]
theorem zd(h:cK x=0)(a:wd x 16≠3)(b:wd x 16≠4)(c:ao x=0):aB x=0:=by unfold aB;rw[if_pos (Ip h a),if_neg b,if_neg a];exact c
theorem uN:∀n x,(∀v∈x,v<2^64)->mzS 1 x<=n->wd x 16=1->aB x=0->aK x=0->(dF 1 x).1=0/\wd (dF 1 x).2.2 16=2/\cK (dF 1 x).2.2=0/\1<=(dF 1 x).2.1.length:=by
 intro n
 induction n with
 | zero=>intro x _ h c;exfalso;unfold mzS at h;rw[if_pos c] at h;omega
 | succ n p =>
  intro x j h c f a;have e:ah x=(0,iA (aO x) 2):=by unfold ah;rw[if_pos f,if_pos c,if_pos a]
  have h:(ah x).1=0:=by rw[e]
  have hd:=gj j c h;obtain⟨-,-,k,-,-,-,-,-⟩:=mz j h;obtain⟨q,r2⟩:=rf a;obtain⟨g1,g2,g3,d,g5,g6⟩:=fU f c (.inl rfl) (eG a) (λy g=>by
   obtain⟨i,b⟩:=kj8.1 g;exact q i y b) (qH a)
  simp only[Nat.reduceAdd] at d;rw[eE j c h];by_cases b:32<=(aO x).length
  .rw[if_pos b] at d;have c:aK (au x (ah x).2)=0:=by rw[e,cD b];exact (vy a b).1
   have i:wd (au x (ah x).2) 16=1:=by rw[e];exact d
   have g:aB (au x (ah x).2)=0:=zd k (by omega) (by omega) (aL c).1;obtain⟨l,m,o,i4⟩:=p _ (dY j h) (by omega) i g c;rw[if_pos l];exact⟨rfl,m,o,by simp⟩
  rw[if_neg b] at d;have c:wd (au x (ah x).2) 16=2:=by rw[e];exact d
  rw[cU (by omega),if_pos rfl];exact⟨rfl,c,k,by simp⟩
theorem wD(c:ao x=0)(m:¬ 32<=(aI x).length):bh (au x (iA (aI x) 3)) 128 128=0/\gQ (au x (iA (aI x) 3)) 128 128=aA (aa x) 128/\ao (au x (iA (aI x) 3))=0/\aa (au x (iA (aI x) 3))=fwB (aa x) 128:=by
 have n:=pY (x:=x) (E:=[⟨16,3⟩]) (λe d=>by
  rw[kq2] at d;subst d;exact .inl (by dsimp only;omega))
 obtain⟨o,i⟩:=(n.ev c).heap c;have f:=cH c;have y5:(aa x).map (nxB (au x [⟨16,3⟩]))=aa x:=by
  rw[kxi (g:=id) (λb h=>?_),List.map_id];obtain⟨a,rfl,a1,a2,-⟩:=f.1 b h;show nxB (au x [⟨16,3⟩]) (bkAt x a)=bkAt x a;unfold nxB;refine zr ?_;rw[af,show ((a:Int)).toNat=a from kqf a,bj _ _ _ (λe d=>by
   rw[kq2] at d;subst d;dsimp only;omega)]
  rfl
 rw[y5] at i;have h:=pA o;obtain⟨l,-,a,-,b,d,j,k,-⟩:=h;rw[i] at a;subst a;have e:au x (iA (aI x) 3)=au (au x [⟨16,3⟩]) (aZ (aa x) 128):=by rw[ii m,<-fh,sb c];rfl
 rw[e];exact⟨b,d,j,k⟩
theorem uU:∀n x,(∀v∈x,v<2^64)->mzS 2 x<=n->wd x 16=2->aB x=0->(dF 2 x).1=0/\wd (dF 2 x).2.2 16=3/\wd (dF 2 x).2.2 17=0/\cK (dF 2 x).2.2=0/\1<=(dF 2 x).2.1.length/\bh (dF 2 x).2.2 128 128=0/\ao (dF 2 x).2.2=0:=by
 intro n
 induction n with
 | zero=>intro x _ h d;exfalso;unfold mzS at h;rw[if_pos d] at h;omega
 | succ n t =>
  intro x i h d a;have c:ao x=0:=by have:=a;unfold aB at this;rw[if_pos (jH a),if_neg (by omega),if_neg (by omega)] at this;exact this
  have e:ah x=(0,iA (aI x) 3):=by unfold ah;rw[if_pos a,if_neg (by omega),if_pos d,if_pos c]
  have g:(ah x).1=0:=by rw[e]
  have hd:=gj i d g;obtain⟨-,-,l,-,-,-,-,-⟩:=mz i g;obtain⟨u,w,y⟩:=pD c;obtain⟨g1,g2,g3,f,k,g6⟩:=fU a d (.inr rfl) u w y;simp only[Nat.reduceAdd] at f k;rw[eE i d g];by_cases b:32<=(aI x).length
  .rw[if_pos b] at f;have j:wd (au x (ah x).2) 16=2:=by rw[e];exact f
   have h:aB (au x (ah x).2)=0:=zd l (by omega) (by omega) (vT d g).1;obtain⟨m,o,p,q,i5,r,s⟩:=t _ (dY i g) (by omega) j h;rw[if_pos m];exact⟨rfl,o,p,q,by simp,r,s⟩
  rw[if_neg b] at f;have d:wd (au x (ah x).2) 16=3:=by rw[e];exact f
  obtain⟨h,-,j,-⟩:=wD c b;rw[cU (by omega),if_pos rfl];refine⟨rfl,d,by rw[e];exact k,l,by simp,?_,?_⟩
  .rw[e];exact h
  rw[e];exact j
structure Hd (G xs:List Nat):Prop where
 len:xs.length=G.length
 low:∀i:Nat,96<=i->i<112->wd xs i=wd G i
 blk:∀b∈aa G,wd xs b.at_.toNat=wd G b.at_.toNat/\wd xs (b.at_.toNat+1)=wd G (b.at_.toNat+1)
section
variable {G xs:List Nat}
theorem Hd.blocks(h:Hd G xs):∀i l,blocks G i=some l->(∀b∈l,b∈aa G)->Proofs.YtpcajamacpbjcaaGreat.blocks xs i=some l:=by
 refine dX (λi l=>(∀b∈l,b∈aa G)->Proofs.YtpcajamacpbjcaaGreat.blocks xs i=some l) (λi c _=>?_) (λi l c g a e d=>?_)
 .exact aH (by rw[h.len];exact c)
 have e:=e (λb a=>d b (kji _ a));obtain⟨a,f⟩:=h.blk _ (d (bkAt G i) (by simp));rw[af,kqf] at a f;have j:szAt xs i=szAt G i:=by unfold szAt;rw[a]
 have d:stands xs i=true:=by unfold Proofs.YtpcajamacpbjcaaGreat.stands at g |-;rw[a,h.len];exact g
 have b:bkAt xs i=bkAt G i:=by unfold bkAt;rw[a,f]
 rw[aT (by rw[h.len];exact c) d,j,e,b];rfl
theorem Hd.ty(h:Hd G xs)(c:ao G=0)(d:b∈aa G)(e:b.kind=1):wd xs (tyA b)=wd G (tyA b)/\wd xs (tyA b+1)=wd G (tyA b+1):=by obtain⟨k,a,rfl⟩:=kqy d;have ht:=gK (gw c).2.2.2 (by omega) a e;unfold tyA;exact⟨h.low _ (by omega) (by omega),h.low _ (by omega) (by omega)⟩
theorem Hd.fit(h:Hd G xs)(c:ao G=0)(d:b∈aa G):dQ xs b=dQ G b:=by
 unfold dQ;by_cases a:b.kind=1
 .obtain ⟨e,f⟩:=h.ty c d a;unfold dm;rw[e,f]
 have:(b.kind != 1)=true:=by rw[kqx];exact a
 rw[this,kvd,kvd]
theorem Hd.heap(h:Hd G xs)(e:ao G=0):ao xs=0/\aa xs=aa G:=by obtain⟨g,l,i,f,c⟩:=ax e;have d:=h.blocks 128 l i (λb d=>by rw[c];exact d);rw[c];refine gI (by rw[h.len];exact g) d ?_;rw[kzt] at f |-;intro b a;rw[h.fit e (by rw[c];exact a)];exact f b a
theorem Hd.mv(h:Hd G xs)(f:ao G=0):∀(l:List Bk) (s:Int),(∀b∈l,b∈aa G)->ch xs l s=ch G l s:=by
 intro l
 induction l with
 | nil=>intro s _;rfl
 | cons b l e =>intro s d;simp only[ch];rw[h.fit f (d b (by simp)),e _ (λc a=>d c (kji _ a)),e _ (λc a=>d c (kji _ a))]
theorem Hd.rd(h:Hd G xs)(d:ao G=0)(g:bh G 128 128=0):bh xs 128 128=0/\gQ xs 128 128=gQ G 128 128:=by
 obtain⟨j,k,l,c,m,n⟩:=cu g;have e:l=aa G:=by have:=(gw d).2.2.2;rw[show ((128:Int)).toNat=128 from rfl] at c;rw[c] at this;exact Option.some.inj this
 have a:=h.blocks 128 l c (λb a=>by rw[<-e];exact a);have f:bh xs 128 128=0:=by rw[jb (by rw[h.len];exact j) (by rw[h.len];exact k) (l:=l) a,h.mv d l _ (λb a=>by rw[<-e];exact a),if_pos m]
 obtain⟨-,-,l2,b,-,i⟩:=cu f;rw[show ((128:Int)).toNat=128 from rfl] at b;rw[a] at b;obtain rfl:=Option.some.inj b;exact⟨f,by rw[i,n]⟩
theorem Hd.fx(h:Hd G xs)(j:cn G=0):cn xs=0/\di xs=di G/\aS xs 128=aS G 128:=by
 obtain⟨a,d,e⟩:=cE j;obtain⟨b,f⟩:=h.heap a;obtain⟨g,i⟩:=h.rd a d;have c:cn xs=0:=by unfold cn;rw[if_pos b];exact g
 obtain⟨-,-,k⟩:=cE c;exact⟨c,by rw[k,e,i],by rw[(gw b).2.1,(gw a).2.1,f]⟩
theorem o9{M:List (Int × Int)}:∀ {R:List Int},(∀r∈R,wd xs r.toNat=wd G r.toNat)->cI xs M R=cI G M R:=by
 intro R
 induction R with
 | nil=>intro _;rfl
 | cons r R b =>
  intro h;simp only[cI];rw[b (λx a=>h x (kji _ a))];have:fV xs M r.toNat=fV G M r.toNat:=by unfold fV;rw[h r (by simp)]
  rw[this]
theorem Hd.ob(h:Hd G xs){a:Int}(d:cM G a=0)(t:∀r∈cm G a,wd xs r.toNat=wd G r.toNat):cM xs a=0/\cB xs a=cB G a/\cm xs a=cm G a:=by
 have f:cn G=0:=by
  by_cases b:cn G=0
  .exact b
  rw[(AH rfl b).1] at d;exact absurd d b
 obtain⟨v,w,x⟩:=h.fx f;obtain⟨i,f2,f3⟩:=cE f;have l:=h.heap i;cases e:js (aS G 128) a with
 | none=>rw[(qa f e).1] at d;cases d
 | some b =>
  have g:js (aS xs 128) a=some b:=by rw[x];exact e
  obtain⟨p,b2,u⟩:=jY e;rw[(gw i).2.1] at p;have k:s9 xs b=s9 G b:=by obtain⟨c,j⟩:=h.ty i p u;unfold s9;rw[c,j]
  have s:da xs b=da G b:=by unfold da;rw[k]
  have q:cm G a=da G b:=by simp[cm,i,e]
  have j:cm xs a=da xs b:=by simp[cm,l.1,g]
  rw[q] at t;cases c:b.mark with
  | false=>rw[(qw f e c).1] at d;cases d
  | true =>
   cases m:cI G (di G) (da G b) with
   | none=>rw[(uz f e c m).1] at d;cases d
   | some o =>
    have n:cI xs (di xs) (da xs b)=some o:=by rw[s,w,o9 t];exact m
    obtain⟨o1,o⟩:=ym f e c m;obtain⟨y,z⟩:=ym v g c n;exact⟨y,by rw[z,o],by rw[j,q,s]⟩
end
def Bd (G:List Nat) (a:Nat):Prop:=128<=a/\∃k,k<=(aa G).length/\blocks G a=some ((aa G).drop k)
theorem DT(h:ao G=0):Bd G 128:=⟨kqa _,0,kqv _,(gw h).2.2.2⟩
theorem qq(h:Bd G a)(p:bu G (a:Int)=0)(e:iI G (a:Int)=bkAt G m):a<=m/\2<=szAt G m/\m+szAt G m<=G.length/\Bd G (m+szAt G m)/\bkAt G m∈aa G/\(bkAt G m).mark=true/\(bkAt G m).kind=1:=by
 obtain⟨h1,k,hk,g⟩:=h;obtain⟨-,-,-,i,j,q,p2,r,p4,s,p6,t,u,l,v,-,-,c,w,-,x⟩:=fA p;have b:i=m:=by have:=j.symm.trans e;have d:=congrArg Bk.at_ this;rw[af,af] at d;omega
 subst b;rw[v] at g;obtain rfl:=Option.some.inj g;have b:i<G.length:=(by omega);obtain⟨d,n,f3,f⟩:=cj x b;rw[kxr,kxr] at f;refine⟨q,r,s,⟨by omega,k+c+1,?_,?_⟩,?_,t,u⟩
 .rw[kz2] at w;omega
 .rw[f,kki]
 rw[<-n];have o:gk ((List.drop k (aa G)).drop c) 0∈(List.drop k (aa G)).drop c:=by unfold gk;rw[kqg d,kq9];exact kqp d
 exact kxt (kxt o)
theorem GS(h:ao G=0)(c:mU G f=true):Bd G f:=by
 obtain⟨-,-,-,g⟩:=gw h;obtain⟨l,-⟩:=ax h;have hbd:=(ae _).1 l;unfold mU at c;rw[g] at c;dsimp only at c;rw[kxw,kx1] at c;rcases c with⟨b,n,d⟩|d
 .rw[kqw] at d;obtain⟨k,m,rfl⟩:=kqy n;obtain⟨a,e,a1,i,a3,a4,j⟩:=bN 128 _ g (by omega) k m;rw[e,af] at d;obtain rfl:a=f:=(by omega);exact⟨i,k,by omega,j⟩
 rw[kqw] at d;subst d;exact⟨by omega,_,kqa _,by rw[kj2];exact aH (kqa _)⟩
theorem bd_is(h:ao G=0)(e:Bd G f)(hf:f<=G.length):mU G f=true:=by
 obtain⟨-,-,-,d⟩:=gw h;obtain⟨h1,k,hk,c⟩:=e;unfold mU;rw[d];dsimp only;rw[kxw,kx1];by_cases g:f=G.length
 .right;rw[kqw];exact g
 left;obtain⟨a,b,f3,f4⟩:=cj c (by omega);refine⟨bkAt G f,?_,by rw[kqw,af]⟩;rw[<-b];unfold gk;rw[kqg a,kq9];exact kxt (kqp a)
def AN (G:List Nat) (a:Nat):Prop:=∀m:Nat,bkAt G m∈aa G->(bkAt G m).mark=true->a<=m->cM G (m:Int)=0
theorem zy :∀k a,G.length-a<=k->Bd G a->AN G a->(jp G a).1=0/\(jp G a=(0,cc)\/∃m:Nat,a<=m/\2<=szAt G m/\m+szAt G m<=G.length/\Bd G (m+szAt G m)/\bkAt G m∈aa G/\(bkAt G m).mark=true/\jp G a=(0,⟨17,m+szAt G m⟩::cB G (m:Int))):=by
 intro k
 induction k with
 | zero =>
  intro a s c d;by_cases b:bu G (a:Int)=0
  .obtain ⟨-,-,-,m,e,-⟩:=fA b;obtain⟨h,j,l,-⟩:=qq c b e;omega
  rw[iX b];exact⟨rfl,.inl rfl⟩
 | succ k u =>
  intro a s c d;by_cases b:bu G (a:Int)=0
  .obtain ⟨-,-,-,m,e,-⟩:=fA b;obtain⟨h,j,l,n,o,p,n7⟩:=qq c b e;by_cases i:cm G (m:Int)=[]
   .rw[jA b e i];obtain⟨t,f⟩:=u (m+szAt G m) (by omega) n (λg q r h3=>d g q r (by omega));refine⟨t,?_⟩;rcases f with f|⟨g,j1,q,r,v,w,x,y⟩
    .exact .inl f
    exact .inr ⟨g,by omega,q,r,v,w,x,y⟩
   have f:=d m o p h;rw[nD b e i f];exact⟨rfl,.inr ⟨m,h,j,l,n,o,p,rfl⟩⟩
  rw[iX b];exact⟨rfl,.inl rfl⟩
theorem jx(h:ao G=0)(a:r∈cm G (m:Int)):∃i:Nat,r=((m+2+i:Nat):Int)/\i<(flds G m).length/\m+2+i<m+szAt G m/\fG G m:=by
 unfold cm at a;rw[if_pos h] at a;cases g:js (aS G 128) (m:Int) with
 | none=>rw[g] at a;cases a
 | some b =>
  rw[g] at a;dsimp only at a;obtain⟨d,e1,j,e⟩:=vv h g;obtain rfl:d=m:=(by omega);have n:s9 G b=flds G d:=by rw[j];rfl
  have f:b.at_=(d:Int):=by rw[j,af]
  unfold da at a;obtain⟨i,l,-,o⟩:=mT.1 a;rw[n] at l;have c:=e.2.2.2.2.2.1;rw[iC (G:=G) (b:=bkAt G d) e.2.2.2.2.1] at c;simp only[kqs,kqw] at c;have k:=c.2;rw[aU] at k;have h8:(flds G d).length=(bB (wd G (tyA (bkAt G d))) (wd G (tyA (bkAt G d)+1))).length:=rfl;unfold bp at k;exact⟨i,by rw[o,f];omega,l,by omega,e⟩
theorem jU(h:ao G=0)(p:fG G a)(n:b∈aa G):b.at_<=(a:Int)/\(b.at_=(a:Int)\/b.at_+2<=(a:Int))\/((a+szAt G a:Nat):Int)<=b.at_:=by
 obtain⟨o1,o2,q,r,o5,o6,k,o,e,d⟩:=p;obtain⟨j,g,rfl⟩:=kqy n;rcases kq8 k j with m|m
 .rw[aT q r] at d;cases c:blocks G (a+szAt G a) with
  | none=>rw[c] at d;cases d
  | some f =>
   rw[c] at d;simp only[kzs,Option.some.injEq] at d;have i:f=(aa G).drop (k+1):=by
    have:=congrArg (List.drop 1) d;rw[kxr] at this
    simpa using this
   have l:(aa G)[j]∈f:=by rw[i];refine kvl.2 ⟨j-(k+1),by rw[kz2];omega,?_⟩;rw[kjw];congr 1;omega
   have:=(lT _ _ c).1 _ l;exact .inr this
 have i:=(cH h).2;rw[kzg] at i;have ha:(aa G)[k].at_=(a:Int):=by rw[e,af]
 obtain⟨c,l,c1,c2,-⟩:=(cH h).1 _ (kqp g);have hc:(aa G)[j].at_=(c:Int):=by rw[l,af]
 left;rcases kq8 j k with f|f
 .have:=i j k g o f;omega
 have:j=k:=(by omega);subst this;omega
structure I3 (x:List Nat):Prop where
 ck:aB x=0
 p3:wd x 16=3
 hp:ao x=0
 sl:wd x 17=0->dh x=0
 fx:AN x (wd x 17)
theorem I3.rd(h:I3 x):bh x 128 128=0:=by have:=h.ck;unfold aB at this;rw[if_pos (jH h.ck),if_neg (by rw[h.p3];decide),if_pos h.p3] at this;exact this
theorem hd_put(h:ao x=0)(g:∀e∈E,e.a<19\/112<=e.a/\∀b∈aa x,e.a≠b.at_/\e.a≠b.at_+1):Hd x (au x E):=by
 refine⟨aG _ _,λi h1 h2=>bj _ _ _ λe d f=>?_,λb i=>?_⟩
 .rcases g e d with c|c<;>omega
 obtain⟨a,rfl,a1,-⟩:=(cH h).1 b i;have b:(bkAt x a).at_=(a:Int):=af x a;rw[b,kqf];refine⟨bj _ _ _ λe d f=>?_,bj _ _ _ λe d f=>?_⟩
 .rcases g e d with c|⟨-,c⟩
  .omega
  exact (c _ i).1 (by rw[b];exact f)
 rcases g e d with c|⟨-,c⟩
 .omega
 exact (c _ i).2 (by rw[b,f];rfl)
theorem vG(h:ao x=0)(d:∀e∈E,e.a<19\/112<=e.a/\e.a<128):Hd x (au x E):=hd_put h λe a=>by
 rcases d e a with c|c
 .exact .inl c
 .refine .inr ⟨c.1,λb e=>?_⟩;obtain⟨a,rfl,a1,-⟩:=(cH h).1 b e;have b:(bkAt x a).at_=(a:Int):=af x a;rw[b];omega
theorem AQ(h:Hd x xs)(c:ao x=0)(b:bkAt xs m∈aa xs):bkAt x m∈aa x/\bkAt xs m=bkAt x m:=by
 rw[(h.heap c).2] at b;obtain⟨a,e,-⟩:=(cH c).1 _ b;have d:=congrArg Bk.at_ e;rw[af,af] at d;obtain rfl:m=a:=(by omega);rw[e] at b;exact⟨b,e⟩
theorem hd_bd(h:Hd x xs)(d:ao x=0)(c:Bd x a):Bd xs a:=by obtain⟨e,k,g,f⟩:=c;refine⟨e,k,by rw[(h.heap d).2];exact g,?_⟩;rw[(h.heap d).2];exact h.blocks a _ f λb c=>kxt c
theorem qY(O:∀v∈x,v<2^64)(h:I3 x):(ah x).1=0/\(I3 (au x (ah x).2)\/wd (au x (ah x).2) 16=4/\wd (au x (ah x).2) 17=128/\wd (au x (ah x).2) 18=128/\Hd x (au x (ah x).2)/\cK (au x (ah x).2)=0):=by
 have p3:=h.p3;have e:ah x=sgFix x:=by unfold ah;rw[if_pos h.ck,if_neg (by omega),if_neg (by omega),if_pos p3]
 obtain⟨-,X,W,G⟩:=cP h.ck;have B:=(ae _).1 X;obtain⟨⟨l1,l2,l3⟩,-⟩:=(bo x).1 W;have A:=h.rd;by_cases z:wd x 17=0
 .have y:=h.sl z;have j:sgFix x=(0,⟨17,128⟩::dg x):=by unfold sgFix;rw[if_pos z,if_pos y]
  have a:(ah x).1=0:=by rw[e,j]
  obtain⟨-,-,t,-⟩:=mz O a;refine⟨a,.inl ?_⟩;obtain⟨-,-,-,-,-,-,-,C,F,q3,-⟩:=kj y;obtain⟨L,M,N,p,u,D⟩:=jw (f:=128) (l:=dg x) h.ck p3 (by decide) (by omega) (by omega) (by omega) F (λe b=>by have:=(C e b).1;omega) (λe b=>(C e b).2);have n:Hd x (au x (⟨17,128⟩::dg x)):=vG h.hp λe b=>by
   rcases kq0.1 b with rfl|b
   .exact .inl (by dsimp only;omega)
   exact .inr (C e b).1
  rw[e,j] at t |-;dsimp only at t |-;have k:=(n.heap h.hp).1;have c:cJ (au x (⟨17,128⟩::dg x))=0:=by unfold cJ;rw[if_pos t,if_neg];rintro ⟨-,-,o⟩;rw[u,bd_is k (DT k) (by rw[n.len];omega)] at o;cases o
  refine⟨?_,p,k,λd=>?_,λm d w o=>?_⟩
  .unfold aB;rw[if_pos c,if_neg (by rw[p];decide),if_pos p];exact (n.rd h.hp A).1
  .rw[u] at d;cases d
  obtain⟨J,K⟩:=AQ n h.hp d;rw[K] at w;have g:=h.fx m J w (by omega);refine (n.ob g λr q=>?_).1;obtain⟨i,rfl,H,I,s⟩:=jx h.hp q;rw[kqf];refine bj _ _ _ λe b E=>?_;have:=s.1;rcases kq0.1 b with rfl|b
  .dsimp only at E;omega
  have:=(C e b).1;omega
 have hF:128<=wd x 17:=by
  rcases (cy _ _ _).1 G with d|⟨-,-,d⟩|d
  .omega
  .rcases d with d|d
   .exact absurd d z
   exact ((a9 _).1 d).1
  omega
 have j:sgFix x=jp x (wd x 17):=by unfold sgFix;rw[if_neg z]
 have F:Bd x (wd x 17):=by
  refine GS h.hp ?_;have c:=jH h.ck;unfold cJ at c;by_cases y:mU x (wd x 17)=true
  .exact y
  split at c
  .rw[if_pos ⟨p3,z,by simpa using y⟩] at c;cases c
  exact absurd c (by assumption)
 obtain⟨V,C⟩:=zy _ (wd x 17) (kqa _) F h.fx;have a:(ah x).1=0:=by rw[e,j];exact V
 obtain⟨-,-,t,-⟩:=mz O a;refine⟨a,?_⟩;rcases C with C|⟨m,J,K,Y,Z,P,m6,m7⟩
 .right;rw[e,j,C] at t |-;obtain⟨L,M,N,p,u,D⟩:=ie h.ck p3;refine⟨p,u,D,vG h.hp λe b=>?_,t⟩;simp only[cc,kq0,kzm,or_false] at b;rcases b with rfl|rfl|rfl<;>exact .inl (by dsimp only;omega)
 left;rw[e,j,m7] at t |-;dsimp only at t |-;have g:=h.fx m P m6 J;obtain⟨f,-,-,-,-,q5,q6,q7,K,R⟩:=ij g;have Q:=EZ g;have hme:m%2=0/\szAt x m%2=0:=by
  obtain⟨a,U,S,T,a3,y⟩:=(cH h.hp).1 _ P;have o:=congrArg Bk.at_ U;rw[af,af] at o;obtain rfl:m=a:=(by omega);have:=aC y;omega
 obtain⟨L,M,N,p,u,D⟩:=jw (f:=m+szAt x m) (l:=cB x (m:Int)) h.ck p3 ((a9 _).2 (by omega)) Y (by omega) (by omega) R (λe b=>by have:=Q e b;omega) (λe b=>by have:=Q e b;omega);have g:∀j:Nat,j≠17->(∀r∈cm x (m:Int),r≠(j:Int))->wd (au x (⟨17,m+szAt x m⟩::cB x (m:Int))) j=wd x j:=by
  intro j h17 U;refine bj _ _ _ λe b E=>?_;rcases kq0.1 b with rfl|b
  .dsimp only at E;omega
  obtain⟨r,r1,r2,r3,r4⟩:=K e b;obtain rfl:r=j:=(by omega);have E:=q7 r (λi y J=>U _ (kqp y) (by rw[(q6 i y).1,J]));have y:=eJ _ x R e b (by omega) (by omega);rw[r1,kqf,E] at y;exact r3 y
 have n:Hd x (au x (⟨17,m+szAt x m⟩::cB x (m:Int))):=by
  refine⟨aG _ _,λi d w=>g i (by omega) λr q f=>?_,λb B=>?_⟩
  .obtain ⟨D,y,-,-,s⟩:=jx h.hp q;have:=s.1;omega
  obtain⟨a,rfl,S,T,-⟩:=(cH h.hp).1 b B;have b:(bkAt x a).at_=(a:Int):=af x a;rw[b,kqf];refine⟨g _ (by omega) λr q f=>?_,g _ (by omega) λr q f=>?_⟩
  .obtain ⟨D,y,H,I,s⟩:=jx h.hp q;have:=jU h.hp s B;rw[b] at this;omega
  obtain⟨D,y,H,I,s⟩:=jx h.hp q;have:=jU h.hp s B;rw[b] at this;omega
 have k:=(n.heap h.hp).1;have c:cJ (au x (⟨17,m+szAt x m⟩::cB x (m:Int)))=0:=by unfold cJ;rw[if_pos t,if_neg];rintro ⟨-,-,o⟩;rw[u,bd_is k (hd_bd n h.hp Z) (by rw[n.len];omega)] at o;cases o
 refine⟨?_,p,k,λd=>?_,λb d w o=>?_⟩
 .unfold aB;rw[if_pos c,if_neg (by rw[p];decide),if_pos p];exact (n.rd h.hp A).1
 .rw[u] at d;omega
 obtain⟨c,k⟩:=AQ n h.hp d;rw[k] at w;rw[u] at o;have a:=h.fx b c w (by omega);refine (n.ob a λr q=>?_).1;obtain⟨i,rfl,H,I,s⟩:=jx h.hp q;rw[kqf];refine g _ (by have:=s.1;omega) λr2 b f=>?_;obtain⟨D,y,j1,j2,j3⟩:=jx h.hp b;omega
theorem zQ(x:List Nat)(t:Nat):mvd x t t=true:=by
 unfold mvd;cases t with
 | zero=>unfold uG;simp
 | succ t=>unfold uG;rw[if_neg (by omega)];simp
theorem qu:∀n x,(∀v∈x,v<2^64)->mzS 3 x<=n->I3 x->(dF 3 x).1=0/\wd (dF 3 x).2.2 16=4/\wd (dF 3 x).2.2 17=128/\wd (dF 3 x).2.2 18=128/\aB (dF 3 x).2.2=0/\ao (dF 3 x).2.2=0/\1<=(dF 3 x).2.1.length:=by
 intro n
 induction n with
 | zero=>intro x _ h a;exfalso;have:=a.p3;unfold mzS at h;rw[if_pos this] at h;omega
 | succ n q =>
  intro x c h a;obtain⟨d,b⟩:=qY c a;have hd:=gj c a.p3 d;rw[eE c a.p3 d];rcases b with b|⟨e,f,g,i,j⟩
  .obtain ⟨h,k,l,m,o,p,i7⟩:=q _ (dY c d) (by omega) b;rw[if_pos h];exact⟨rfl,k,l,m,o,p,by simp⟩
  rw[cU (by omega),if_pos rfl];refine⟨rfl,e,f,g,?_,(i.heap a.hp).1,by simp⟩;unfold aB;rw[if_pos (Ip j (by omega)),if_pos e];dsimp only;rw[g,f,if_pos (zQ _ _)];exact (i.rd a.hp a.rd).1
theorem Bq(r:∀v∈x,v<2^64)(s:cK x=0)(j:wd x 16=3)(g:wd x 17=0)(b:aK x=0)(t:aO x=[])(p:aI x=[]):I3 x:=by
 obtain⟨o,c,M,a,d,s1,n,w,y,z,-⟩:=te b r;rw[t] at a;have a:o=x:=a;subst a;rw[p] at d;have d:c=o:=d;subst d;have a:=(aL b).1;have d:cJ c=0:=by unfold cJ;rw[if_pos s,if_neg];rintro ⟨-,h,-⟩;exact h g
 refine⟨?_,j,a,λ_=>y,λm f q _=>?_⟩
 .unfold aB;rw[if_pos d,if_neg (by omega),if_pos j];exact n
 have h:=(gw a).2.2.2;obtain⟨-,-,l,k,-,u⟩:=cu n;rw[show ((128:Int)).toNat=128 from rfl,h] at k;obtain rfl:=Option.some.inj k;have e:=pe (lu h (by omega)) 128;have i:(m:Int)∈fC (aa c):=by unfold fC;refine kz9.2 ⟨bkAt c m,kzy.2 ⟨f,q⟩,af c m⟩
 rw[e] at i;obtain⟨q,m,f⟩:=kz9.1 i;rw[<-f];exact z q (by rw[<-w,u];exact m)
section
variable {G xs:List Nat}
theorem sh(h:∀j,96<=j->wd xs j=wd G j)(b:Bk):dQ xs b=dQ G b:=by unfold dQ dm;rw[h (tyA b) (by unfold tyA;omega),h (tyA b+1) (by unfold tyA;omega)]
theorem Fm(h:∀j,96<=j->wd xs j=wd G j):∀(l:List Bk) (s:Int),ch xs l s=ch G l s:=by
 intro l
 induction l with
 | nil=>intro s;rfl
 | cons b l a =>intro s;simp only[ch];rw[sh h,a,a]
theorem ve(a:xs.length=G.length)(h:∀j,96<=j->wd xs j=wd G j){f s:Int}(hf:96<=f.toNat):bh xs f s=bh G f s:=by
 unfold bh l7;rw[a,eC a f.toNat (λj hj=>h j (by omega))];cases blocks G f.toNat with
 | none=>rfl
 | some l=>dsimp only;rw[Fm h]
theorem Ed(h:∀j,96<=j->j<t->wd xs j=wd G j)(k:mdOk xs t=true)(h128:128<=t):∀n i,t-i<=n->128<=i->mvd G i t=true->mvd xs i (t+szAt xs t)=true:=by
 have hsz:=kA k;have a:mvd xs t (t+szAt xs t)=true:=by rw[kk (by omega) k,jL (kqa _)];simp
 intro n
 induction n with
 | zero =>intro i m o b;rw[jL (by omega),kqw] at b;subst b;exact a
 | succ n p =>
  intro i m o b;by_cases e:i<t
  .cases c:mdOk G i with
   | false=>rw[qX e c] at b;cases b
   | true =>
    have hz:=kA c;rw[kk e c] at b;have g:wd xs i=wd G i:=h i (by omega) e;have f:mdOk xs i=true:=by unfold mdOk at c |-;rw[g];simp only[kqs,kqw] at c |-;obtain⟨d,q,r,l⟩:=c;refine⟨d,q,r,?_⟩;unfold aD at d;rw[kqs] at d;have h7:=(bC _).1 d.1;unfold dm at l |-;rw[h (tyA (aq (wd G i))) (by unfold tyA;omega) (by unfold tyA;omega),h (tyA (aq (wd G i))+1) (by unfold tyA;omega) (by unfold tyA;omega)];exact l
    have d:szAt xs i=szAt G i:=by unfold szAt;rw[g]
    rw[kk (by omega) f,d];exact p (i+szAt G i) (by omega) (by omega) b
  rw[jL (by omega),kqw] at b;subst b;exact a
theorem IU :∀ {k:Nat} {l:List Bk} {s:Int},k<=l.length->fv l k->ch G l s=true->ch G (l.drop k) s=true:=by
 intro k
 induction k with
 | zero=>intro l s _ _ h;exact h
 | succ k f =>
  intro l s c d h;cases l with
  | nil=>simp at c
  | cons b l =>
   have e:b.mark=false:=d 0 (by omega);have a:aE b=false:=by unfold aE;rw[e];simp
   simp only[ch,a,kqs] at h;rw[List.drop_succ_cons];refine f (by simpa using c) (λj hj=>?_) (by simpa using h.2);have:=d (j+1) (by omega);exact this
theorem FD(R:∀v∈x,v<2^64)(d:aB x=0)(H:wd x 16=4)(z:bu x ((wd x 17:Nat):Int)=0):(ah x).1=0/\wd (au x (ah x).2) 16=4/\aB (au x (ah x).2)=0:=by
 have e:ah x=sgSld x:=by unfold ah;rw[if_pos d,if_neg (by omega),if_neg (by omega),if_neg (by omega),if_pos H]
 obtain⟨-,hs,hl,S⟩:=cP d;have hb:=(ae _).1 hs;have Q:mvd x 128 (wd x 18)=true/\bh x ((wd x 17:Nat):Int) ((wd x 18:Nat):Int)=0:=by
  have:=d;unfold aB at this;rw[if_pos (jH d),if_pos H] at this;by_cases w:mvd x 128 (wd x 18)=true
  .rw[if_pos w] at this;exact⟨w,this⟩
  rw[if_neg w] at this;cases this
 obtain⟨w,T⟩:=Q;obtain⟨-,a1,a2,m,em,m1,m2,m3,m4,m5,m6,m7,X,l,q1,-,-,k,q2,q3,I⟩:=fA z;obtain⟨r1,r2,l2,Y,r4,-⟩:=cu T;rw[kqf,q1] at Y;obtain rfl:=Option.some.inj Y;obtain⟨u1,u2,u3,u4,u5⟩:=gF r2;have A:bh x (m:Int) ((wd x 18:Nat):Int)=0:=by
  have a:gy x.length (m:Int) ((wd x 18:Nat):Int)=false:=by
   cases b:gy x.length (m:Int) ((wd x 18:Nat):Int) with
   | false=>rfl
   | true=>exact absurd ⟨by omega,by omega,by omega,by omega,by omega⟩ ((lm _ _ _).1 b)
  rw[jb r1 a (l:=l.drop k) (by rw[kqf];exact I),if_pos (IU (by omega) q3 r4)]
 obtain⟨E,F,f3,f4⟩:=cj I (by omega);have q:ei x (m:Int) ((wd x 18:Nat):Int)=0:=by
  unfold ei;rw[if_pos A,kqf,I];cases s:l.drop k with
  | nil=>rw[s] at E;simp at E
  | cons c t =>
   dsimp only;rw[s] at F;have O:c=bkAt x m:=by rw[<-F];rfl
   rw[O,m7];rfl
 have r:sgSld x=(0,⟨17,m+szAt x m⟩::⟨18,wd x 18+szAt x m⟩::jj x m (wd x 18)):=by unfold sgSld;rw[if_pos z,em,af,if_pos q,aU,show ((m:Int)+((szAt x m:Nat):Int)).toNat=m+szAt x m by omega,show (((wd x 18:Nat):Int)+((szAt x m:Nat):Int)).toNat=wd x 18+szAt x m by omega];unfold i9;rw[if_pos q,kqf,kqf]
 have N:(ah x).1=0:=by rw[e,r]
 obtain⟨-,-,k3,-⟩:=mz R N;obtain⟨a,u,n,b,K,g,n2,n10,hu,hua,han,hst,hlv,⟨l3,-,-,-,Z,-⟩,C,o⟩:=fO q;have b:a=m:=(by omega);have K:u=wd x 18:=(by omega);subst b;subst g;have L:=K;have M:=(Dn R d H (by rw[<-e];exact N)).1;have y:=B7 (G:=x) (a:=a) (u:=u) (by omega);rw[<-y] at Z C;rw[<-K] at r;rw[<-e] at M;have p:(jj x a u).Pairwise (λa b=>a.a<b.a):=by rw[kzg];intro i j hi W hij;rw[hU,hU];omega
 have i:∀e∈jj x a u,(u:Int)<=e.a/\e.a<((u+szAt x a:Nat):Int):=λe b=>by
  obtain⟨k,g,rfl⟩:=kqy b;rw[hU];rw[ic] at g;omega
 have V:∀j:Nat,19<=j->wd (au x (ah x).2) j=wd (au x (jj x a u)) j:=by
  intro j W;rw[e,r,show (⟨17,a+szAt x a⟩::⟨18,u+szAt x a⟩::jj x a u:List En)=[⟨17,a+szAt x a⟩,⟨18,u+szAt x a⟩]++jj x a u from rfl,fh];by_cases g:∃e∈jj x a u,e.a=(j:Int)
  .obtain ⟨h,b,h5⟩:=g;have hm2:=i h b;have B:=eJ (jj x a u) (au x [⟨17,a+szAt x a⟩,⟨18,u+szAt x a⟩]) p h b (by omega) (by rw[aG];omega);have D:=eJ (jj x a u) x p h b (by omega) (by omega);rw[show h.a.toNat=j by omega] at B D;rw[B,D]
  rw[bj _ _ _ (λe b h=>g ⟨e,b,h⟩),bj _ _ _ (λe b h=>g ⟨e,b,h⟩)];refine bj _ _ _ λe b h=>?_;simp only[kq0,kzm,or_false] at b;rcases b with rfl|rfl<;>(dsimp only at h;omega)
 have hfp:=(cy _ _ _).1 S;obtain⟨j1,j2,-,j4,j5,j6⟩:=nv (f:=a+szAt x a) (t:=u+szAt x a) (l:=jj x a u) d H ((a9 _).2 (by omega)) ((a9 _).2 (by omega)) (by omega) (by omega) (by omega) (by omega) (by rw[ic];omega) p (λe b=>by have:=i e b;omega) (tA R o);have hlen:(au x (ah x).2).length=x.length:=aG _ _;have g:∀j:Nat,96<=j->j<u->wd (au x (ah x).2) j=wd x j:=λj h1 h2=>by
  rw[V j (by omega)];exact bj _ _ _ λe b h=>by have:=i e b;omega
 have D:wd (au x (ah x).2) u=cQ { aq (wd x a) with mark:=false }:=by rw[V u (by omega)];exact C
 have h:aq (wd (au x (ah x).2) u)={ aq (wd x a) with mark:=false }:=by rw[D,kK o];rfl
 have U:szAt (au x (ah x).2) u=szAt x a:=by have:=congrArg Bk.size h;have B:(aq (wd (au x (ah x).2) u)).size=((szAt (au x (ah x).2) u:Nat):Int):=rfl;have J:({ aq (wd x a) with mark:=false }:Bk).size=((szAt x a:Nat):Int):=rfl;rw[B,J] at this;omega
 have B:dm x (bkAt x a)=true:=by
  obtain⟨-,-,l4,w3,J,-⟩:=cu A;rw[kqf,I] at w3;obtain rfl:=Option.some.inj w3;cases s:l.drop k with
  | nil=>rw[s] at E;simp at E
  | cons c t =>
   rw[s] at F J;have O:c=bkAt x a:=by rw[<-F];rfl
   rw[O] at J;simp only[ch,kqs] at J;have P:=J.1;unfold dQ at P;rw[X] at P
   simpa using P
 have s:mdOk (au x (ah x).2) u=true:=by
  have J:=(bC _).1 o;have c:(aq (wd x a)).kind=1:=X;unfold mdOk aD;rw[h,D,o,c];simp only[beq_self_eq_true,kzx,kvc];unfold dm at B |-;have t:tyA ({ aq (wd x a) with mark:=false }:Bk)=tyA (bkAt x a):=rfl;have htl:tyA (bkAt x a)+1<112:=by have:(bkAt x a).typ=(aq (wd x a)).typ:=rfl;unfold tyA;rw[this];dsimp only at J;omega
  rw[t,g _ (by unfold tyA;omega) (by omega),g _ (by unfold tyA;omega) (by omega)];exact B
 have c:=Ed g s hu (u-128) 128 (by omega) (by omega) (by rw[L];exact w);rw[U] at c;have t:wd (au x (ah x).2) 17=a+szAt x a:=by rw[e,r];exact j5
 have w:wd (au x (ah x).2) 18=u+szAt x a:=by rw[e,r];exact j6
 refine⟨N,M,?_⟩;unfold aB;rw[if_pos (Ip k3 (by omega)),if_pos M,t,w,if_pos c,ve (G:=au x (jj x a u)) (by rw[aG,aG]) (λj W=>V j (by omega)) (by omega)];exact Z
end
theorem F1(b:aB x=0)(q:wd x 16=4)(d:bu x ((wd x 17:Nat):Int)≠0):dJ x=0:=by
 obtain⟨n,-,a,e,c,h,i,l,j,k⟩:=yX b (by omega);obtain⟨-,-,-,f⟩:=cP b;have hF:128<=wd x 17:=by
  rcases (cy _ _ _).1 f with c|c|c
  .exact ((a9 _).1 c.2.1).1
  .omega
  omega
 have g:a=wd x 17:=by unfold fY at e;rw[if_neg (by omega)] at e;omega
 subst g;have g:lfN x=0:=by
  rw[k];by_cases o:0<(fC l).length
  .obtain ⟨m,z,l',p,-⟩:=od n c h i j o;exact absurd p d
  omega
 unfold dJ;rw[if_pos b,if_pos ⟨q,g⟩]
theorem uy{x:Nat}(h:aD x=true)(c:(aq x).kind=1)(m n:Bool):gz (gz x m) n=gz x n:=by obtain⟨a,b,-,-⟩:=jd h c m;obtain⟨y,d⟩:=xq (gz x m);rw[d] at a b |-;unfold gz;rw[if_pos a,if_pos h];unfold il;rw[b]
theorem RmL.trans(h:RmL G xs)(g:RmL xs ys):RmL G ys:=by
 refine⟨g.len.trans h.len,λi c=>?_⟩;rcases g.at_ i c with a|⟨a,d,e,f,m,b⟩
 .rw[a];exact h.at_ i c
 rcases h.at_ i c with c|⟨c,h2,i,j,m0,k⟩
 .rw[c] at e f b;exact .inr ⟨a,d,e,f,m,b⟩
 exact .inr ⟨a,d,i,j,m,by rw[b,k,uy i j]⟩
theorem Rm.toL(h:Rm G xs):RmL G xs:=⟨h.len,λi _=>h.at_ i⟩
theorem NxL.trans(d:ao G=0)(h:NxL G xs)(g:NxL xs ys):NxL G ys:=by
 refine⟨g.len.trans h.len,λi c=>?_⟩;rcases g.at_ i c with a|⟨b,e,a⟩
 .rw[a];exact h.at_ i c
 rw[((h.ev d).heap d).2] at e;obtain⟨f,c,rfl⟩:=kz9.1 e;exact .inr ⟨f,c,a⟩
theorem mkd_nx(xs:List Nat)(l:List Bk):fC (l.map (nxB xs))=fC l:=by
 induction l with
 | nil=>rfl
 | cons b l a =>
  unfold fC at a |-;rw[kj4];have e:(nxB xs b).mark=b.mark:=rfl;have c:(nxB xs b).at_=b.at_:=rfl;simp only[kxf,e];split
  .simp only[kj4,c,a]
  exact a
theorem EY(xs:List Nat):∀(l:List Bk) (s:Int),aA (l.map (nxB xs)) s=aA l s:=by
 intro l
 induction l with
 | nil=>intro s;rfl
 | cons b l d =>intro s;have e:aE (nxB xs b)=aE b:=rfl;have a:(nxB xs b).at_=b.at_:=rfl;have c:(nxB xs b).size=b.size:=rfl;simp only[kj4,aA,e,a,c,d]
theorem C8{n:Nat}(h:Small n E)(hi:i<16\/19<=i/\i<112):wd (au G E) i=wd G i:=bj _ _ _ λe a=>by have:=(h.ins e a).1;omega
theorem qj(g:i<16\/19<=i/\i<112):∀n x,(∀v∈x,v<2^64)->mzS p x<=n->(dF p x).1=0->wd (dF p x).2.2 i=wd x i:=by
 intro n
 induction n with
 | zero =>
  intro x c h _;have a:wd x 16≠p:=λa=>by unfold mzS at h;rw[if_pos a] at h;omega
  rw[cU a]
 | succ n j =>
  intro x c h d;by_cases a:wd x 16=p
  .by_cases f:(ah x).1=6
   .rw[ld a f]
   by_cases b:(ah x).1=0
   .have hd:=gj c a b;rw[eE c a b] at d |-;by_cases e:(dF p (au x (ah x).2)).1=0
    .rw[if_pos e];have:=j (au x (ah x).2) (dY c b) (by omega) e;exact this.trans (C8 (mz c b).2.1 g)
    rw[if_neg e] at d;exact absurd d e
   rw[qe a f b] at d;exact absurd d b
  rw[cU a]
def HsL (G xs:List Nat):Prop:=∀i:Nat,19<=i->wd xs i=wd G i\/∃b∈aa G,(i:Int)=b.at_
theorem F9(g:∀e∈E,e.a<19\/∃b∈aa x,e.a=b.at_):HsL x (au x E):=λi h19=>by
 by_cases d:∃b∈aa x,(i:Int)=b.at_
 .exact .inr d
 .refine .inl (bj _ _ _ λe c f=>?_);rcases g e c with c|⟨b,e,c⟩
  .omega
  .exact d ⟨b,e,by rw[<-c,f]⟩
theorem vP(h:aK x=0):∀e∈aO x,∃b∈aa x,e.a=b.at_:=λe c=>by obtain⟨a,d,-,-,-,-,-,rfl,-⟩:=ep h c;exact⟨_,d,(af x a).symm⟩
theorem D7:∀n x,(∀v∈x,v<2^64)->mzS 1 x<=n->wd x 16=1->aB x=0->aK x=0->RmL x (dF 1 x).2.2/\HsL x (dF 1 x).2.2/\aK (dF 1 x).2.2=0/\fB (dF 1 x).2.2=fB x/\fC (aa (dF 1 x).2.2)=fB x:=by
 intro n
 induction n with
 | zero=>intro x _ h g;exfalso;unfold mzS at h;rw[if_pos g] at h;omega
 | succ n A =>
  intro x m h g k a;have e:ah x=(0,iA (aO x) 2):=by unfold ah;rw[if_pos k,if_pos g,if_pos a]
  have h:(ah x).1=0:=by rw[e]
  have hd:=gj m g h;obtain⟨-,-,G,-,-,-,-,-⟩:=mz m h;obtain⟨H,r2⟩:=rf a;obtain⟨g1,g2,g3,j,g5,g6⟩:=fU k g (.inl rfl) (eG a) (λy b=>by
   obtain⟨i,r⟩:=kj8.1 b;exact H i y r) (qH a)
  simp only[Nat.reduceAdd] at j;rw[eE m g h];by_cases c:32<=(aO x).length
  .rw[if_pos c] at j;obtain⟨d,p⟩:=Ja g h c;have o:RmL x (au x (ah x).2):=by rw[e,cD c];exact (iW a (kjy 31 _)).toL
   have u:HsL x (au x (ah x).2):=by rw[e,cD c];exact F9 λe l=>.inr (vP a e (kx3 l))
   have q:wd (au x (ah x).2) 16=1:=by rw[e];exact j
   have f:aB (au x (ah x).2)=0:=zd G (by omega) (by omega) (aL d).1;obtain⟨z,-⟩:=uN _ _ (dY m h) (kqa _) q f d;obtain⟨B,F,C,D,E⟩:=A _ (dY m h) (by omega) q f d;rw[if_pos z];refine⟨o.trans B,λi r=>?_,C,D.trans p,E.trans p⟩;rcases F i r with s|⟨b,w,s⟩
   .rw[s];exact u i r
   rw[(o.heap (aL a).1).2] at w;obtain⟨y,t,rfl⟩:=kz9.1 w;exact .inr ⟨y,t,s⟩
  rw[if_neg c] at j;have p2':wd (au x (ah x).2) 16=2:=by rw[e];exact j
  rw[cU (by omega),if_pos rfl];rw[e,ii c];obtain⟨b,d,l3,f⟩:=Hv a 2;refine⟨uS a 2,F9 λe l=>?_,b,d,f⟩;rcases kq0.1 l with rfl|l
  .exact .inl (by dsimp only;omega)
  exact .inr (vP a e l)
theorem IZ(f:ao x=0):NxL x (au x (iA (aI x) 3)):=by
 have g:∀e∈aI x,∃b∈aa x,e.a=b.at_+1:=by intro e c;rw[sb f] at c;obtain⟨b,h,-,d⟩:=gJ c;exact⟨b,h,d⟩
 refine pY λe c=>?_;by_cases d:32<=(aI x).length
 .rw[cD d] at c;exact .inr (g e (kx3 c))
 rw[ii d] at c;rcases kq0.1 c with rfl|c
 .exact .inl (by dsimp only;omega)
 exact .inr (g e c)
theorem NxL.mkd(h:NxL G xs)(a:ao G=0):fC (aa xs)=fC (aa G)/\aA (aa xs) 128=aA (aa G) 128:=by rw[((h.ev a).heap a).2];exact⟨mkd_nx _ _,EY _ _ _⟩
theorem Hi:∀n x,(∀v∈x,v<2^64)->mzS 2 x<=n->wd x 16=2->aB x=0->NxL x (dF 2 x).2.2/\aI (dF 2 x).2.2=[]:=by
 intro n
 induction n with
 | zero=>intro x _ h f;exfalso;unfold mzS at h;rw[if_pos f] at h;omega
 | succ n o =>
  intro x j h f b;have a:ao x=0:=by have:=b;unfold aB at this;rw[if_pos (jH b),if_neg (by omega),if_neg (by omega)] at this;exact this
  have e:ah x=(0,iA (aI x) 3):=by unfold ah;rw[if_pos b,if_neg (by omega),if_pos f,if_pos a]
  have g:(ah x).1=0:=by rw[e]
  have hd:=gj j f g;obtain⟨-,-,r,-,-,-,-,-⟩:=mz j g;obtain⟨s,t,u⟩:=pD a;obtain⟨g1,g2,g3,h,l,g6⟩:=fU b f (.inr rfl) s t u;simp only[Nat.reduceAdd] at h l;have i:NxL x (au x (ah x).2):=by rw[e];exact IZ a
  rw[eE j f g];by_cases d:32<=(aI x).length
  .rw[if_pos d] at h;have k:wd (au x (ah x).2) 16=2:=by rw[e];exact h
   have c:aB (au x (ah x).2)=0:=zd r (by omega) (by omega) (vT f g).1;obtain⟨m,-⟩:=uU _ _ (dY j g) (kqa _) k c;obtain⟨p,q⟩:=o _ (dY j g) (by omega) k c;rw[if_pos m];exact⟨i.trans a p,q⟩
  rw[if_neg d] at h;have p3':wd (au x (ah x).2) 16=3:=by rw[e];exact h
  obtain⟨f1,-,c,f⟩:=wD a d;rw[cU (by omega),if_pos rfl];refine⟨i,?_⟩;rw[e,sb c,f];exact nM
theorem GN(h:aK x=0)(n:fC (aa x)=fB x):aO x=[]:=by
 obtain⟨m,-,-⟩:=aL h;rw[eM h,show lD (seenL x) (aa x)=[] from ?_]
 .rfl
 unfold lD;rw[kj1];intro b g;obtain⟨a,rfl,a1,a2,l,a4⟩:=(cH m).1 b g;have f:(bkAt x a).mark=dH x (bkAt x a):=by
  rw[kzk,dV l];constructor
  .intro i;have d:((a:Nat):Int)∈fC (aa x):=by unfold fC;exact kz9.2 ⟨bkAt x a,kzy.2 ⟨g,i⟩,af x a⟩
   rw[n,oz h] at d;obtain⟨c,e,-,k⟩:=d;obtain rfl:a=c:=(by omega);exact k
  intro k;have d:((a:Nat):Int)∈fB x:=(oz h _).2 ⟨a,rfl,l,k⟩;rw[<-n] at d;unfold fC at d;obtain⟨c,p,j⟩:=kz9.1 d;obtain⟨e,i⟩:=kzy.1 p;have o:=pX (cH m).2 e g (by rw[j,af]);rw[<-o];exact i
 unfold dH at f;unfold dK;rw[f];simp
theorem jc{l:List En}{a:Int}(h:(i:Int)≠a):wd (au x (⟨a,v⟩::l)) i=wd (au x l) i:=by
 simp only[au];split
 .refine lU (by rw[kq5]) ?_;unfold wd;rw[kxs (by omega)]
 rfl
theorem Hd.trans(j:ao G=0)(h:Hd G xs)(g:Hd xs ys):Hd G ys:=by refine⟨g.len.trans h.len,λi a b=>(g.low i a b).trans (h.low i a b),λb a=>?_⟩;obtain⟨c,d⟩:=h.blk b a;obtain⟨e,f⟩:=g.blk b (by rw[(h.heap j).2];exact a);exact⟨e.trans c,f.trans d⟩
theorem Hd.rs(h:Hd G xs)(c:ao G=0)(a:Int):cm xs a=cm G a:=by
 have e:=h.heap c;have d:aS xs 128=aS G 128:=by rw[(gw e.1).2.1,(gw c).2.1,e.2]
 unfold cm;rw[if_pos e.1,if_pos c,d];cases g:js (aS G 128) a with
 | none=>rfl
 | some b =>obtain⟨b,b2,f⟩:=jY g;rw[(gw c).2.1] at b;obtain⟨i,j⟩:=h.ty c b f;dsimp only;unfold da s9;rw[i,j]
def Mk (G:List Nat) (m:Nat):Prop:=bkAt G m∈aa G/\(bkAt G m).mark=true
theorem si(d:ao G=0)(h:Mk G m):fG G m/\(bkAt G m).kind=1:=by
 have f:(bkAt G m).kind=1:=lu (gw d).2.2.2 (by omega) _ h.1 h.2;obtain⟨k,b,e⟩:=kqy h.1;obtain⟨a,c,g⟩:=ma d b (by rw[e];exact f);rw[e] at c;have i:=congrArg Bk.at_ c;rw[af,af] at i;obtain rfl:m=a:=(by omega);exact⟨g,f⟩
theorem Hd.mks(h:Hd G xs)(f:ao G=0):Mk xs m↔Mk G m:=by
 constructor
 .rintro ⟨a,b⟩;obtain⟨c,d⟩:=AQ h f a;exact⟨c,by rw[<-d];exact b⟩
 rintro ⟨a,b⟩;obtain⟨c,d⟩:=h.blk _ a;rw[af,kqf] at c d;have e:bkAt xs m=bkAt G m:=by unfold bkAt;rw[c,d]
 exact⟨by rw[(h.heap f).2,e];exact a,by rw[e];exact b⟩
theorem Gh(i:ao G=0){k0:Nat}(hk:k0<=(aa G).length)(o:blocks G c=some ((aa G).drop k0))(k:j<(aa G).length)(p:(c:Int)<=(aa G)[j].at_):k0<=j:=by
 rcases kq8 j k0 with g|d
 .exfalso;obtain⟨a,h,a1,a2,a3,a4⟩:=(cH i).1 _ (kqp k);rw[h,af] at p;have b:c<G.length:=(by omega);obtain⟨m,n,-⟩:=cj o b;rw[kz2] at m;have f:k0<(aa G).length:=(by omega);have e:(aa G)[k0]=bkAt G c:=by rw[<-n];unfold gk;rw[kjh,kqg (by omega),kq9];rfl
  have l:=(cH i).2;rw[kzg] at l;have:=l j k0 k f g;rw[e,h,af,af] at this;omega
 exact d
theorem IG(d:ao G=0)(k:Bd G c)(hc:c<=G.length):c%2=0:=by
 obtain⟨-,f,hk0,i⟩:=k;have hs:=(ae _).1 (ax d).1;by_cases he:c=G.length
 .omega
 obtain⟨g,h,-⟩:=cj i (by omega);rw[kz2] at g;obtain⟨a,b,a1,a2,-⟩:=(cH d).1 _ (kqp (show f<(aa G).length by omega));have e:(aa G)[f]'(by omega)=bkAt G c:=by rw[<-h];unfold gk;rw[kjh,kqg (by omega),kq9];rfl
 rw[e] at b;have j:=congrArg Bk.at_ b;rw[af,af] at j;omega
theorem bd_gap(o:ao G=0)(s:Bd G c)(u:bu G (c:Int)=0)(e:iI G (c:Int)=bkAt G m)(t:Mk G m')(hc:c<=m'):m<=m':=by
 obtain⟨w,x⟩:=t;obtain⟨h1,a,i,d⟩:=s;obtain⟨-,-,-,y,r,p1,-,p3,-,p5,-,-,-,l,q,-,-,k,z,A,B⟩:=fA u;have b:y=m:=by have:=r.symm.trans e;have g:=congrArg Bk.at_ this;rw[af,af] at g;omega
 subst b;rw[q] at d;obtain rfl:=Option.some.inj d;obtain⟨j,h,b⟩:=kqy w;have hj0:=Gh o i q h (by rw[b,af];omega);rw[kz2] at z;rcases kq8 (j-a) k with n|hge
 .exfalso;have:=A (j-a) n;unfold gk at this;rw[kjh,show a+(j-a)=j by omega,kqg h,kq9,b,x] at this;cases this
 obtain⟨f1,f,-⟩:=cj B (by omega);unfold gk at f;rw[kxr,kjh,kxb,kqg (by omega),kq9] at f;have p:=(cH o).2;rw[kzg] at p;by_cases v:j=a+k
 .subst v;rw[f] at b;have g:=congrArg Bk.at_ b;rw[af,af] at g;omega
 have:=p (a+k) j (by omega) h (by omega);rw[f,b,af,af] at this;omega
theorem CB(g:ao G=0)(k:Bd G c)(b:c<=G.length)(r:bu G (c:Int)≠0)(q:Mk G m'):¬ c<=m':=by
 intro hc;have o:=IG g k b;obtain⟨s,t⟩:=q;obtain⟨n,f,h,a⟩:=k;obtain⟨j,p,i⟩:=kqy s;have hj0:=Gh g h a p (by rw[i,af];omega);have d:bkAt G m'∈(aa G).drop f:=by rw[<-i];refine kvl.2 ⟨j-f,by rw[kz2];omega,?_⟩;rw[kjw];congr 1;omega
 have e:0<(fC ((aa G).drop f)).length:=by
  have:((m':Nat):Int)∈fC ((aa G).drop f):=by unfold fC;exact kz9.2 ⟨bkAt G m',kzy.2 ⟨d,t⟩,af G m'⟩
  exact List.length_pos_of_mem this
 obtain⟨m,z,l',l,-⟩:=od (ax g).1 n b o a e;exact r l
theorem kT(a:ao G=0)(h:Mk G m)(b:Mk G m')(hlt:m<m'):m+szAt G m<=m':=by have:=jU a (si a h).1 b.1;rw[af] at this;omega
theorem vf(b:ao G=0)(h:Mk G m)(d:Mk G m')(e:r∈cm G (m:Int))(c:r∈cm G (m':Int)):m=m':=by
 obtain⟨i,e1,-,e2,-⟩:=jx b e;obtain⟨i',f1,-,f2,-⟩:=jx b c;rcases kkh m m' with a|a|a
 .have:=kT b h d a;omega
 .exact a
 have:=kT b d h a;omega
theorem EE(o:ao G=0):∀k a,G.length-a<=k->a<=G.length->Bd G a->AN G a->(jp G a=(0,cc)/\∀m:Nat,Mk G m->a<=m->cm G (m:Int)=[])\/∃m:Nat,a<=m/\m+szAt G m<=G.length/\2<=szAt G m/\Mk G m/\jp G a=(0,⟨17,m+szAt G m⟩::cB G (m:Int))/\∀b:Nat,Mk G b->a<=b->b < m->cm G (b:Int)=[]:=by
 intro k
 induction k with
 | zero =>
  intro a z j n s;by_cases d:bu G (a:Int)=0
  .obtain ⟨-,-,-,m,e,-⟩:=fA d;obtain⟨u,w,v,-⟩:=qq n d e;omega
  exact .inl ⟨iX d,λm t f=>absurd f (CB o n j d t)⟩
 | succ k C =>
  intro a z j n s;by_cases d:bu G (a:Int)=0
  .obtain ⟨-,-,-,m,e,-⟩:=fA d;obtain⟨u,w,v,J,x,y,n7⟩:=qq n d e;have g:=λb (c:Mk G b) (f:a<=b)=>bd_gap o n d e c f;have i:Mk G m:=⟨x,y⟩;by_cases q:cm G (m:Int)=[]
   .rw[jA d e q];rcases C (m+szAt G m) (by omega) v J (λb h p h3=>s b h p (by omega)) with⟨A,B⟩|⟨b,j1,D,E,F,H,I⟩
    .refine .inl ⟨A,λb c f=>?_⟩;rcases kq8 m b with h|h
     .exact B b c (kT o i c h)
     have:=g b c f;obtain rfl:m=b:=(by omega);exact q
    refine .inr ⟨b,by omega,D,E,F,H,λr l f p=>?_⟩;rcases kq8 m r with h|h
    .exact I r l (kT o i l h) p
    have:=g r l f;obtain rfl:m=r:=(by omega);exact q
   have h:=s m x y u;refine .inr ⟨m,u,v,w,i,nD d e q h,λb c f p=>?_⟩;have:=g b c f;omega
  exact .inl ⟨iX d,λm t f=>absurd f (CB o n j d t)⟩
theorem nF(c:cM x (m:Int)=0)(h17:j≠17)(l:∀r∈cm x (m:Int),r≠(j:Int)):wd (au x (⟨17,f⟩::cB x (m:Int))) j=wd x j:=by
 obtain⟨g,-,-,-,-,q5,n,o,d,p⟩:=ij c;refine bj _ _ _ λe b a=>?_;rcases kq0.1 b with rfl|b
 .dsimp only at a;omega
 obtain⟨r,q,r2,s,r4⟩:=d e b;obtain rfl:r=j:=(by omega);have h:=o r (λi a k=>l _ (kqp a) (by rw[(n i a).1,k]));have a:=eJ _ x p e b (by omega) (by omega);rw[q,kqf,h] at a;exact s a
theorem ob_hd(d:ao x=0)(c:cM x (m:Int)=0):Hd x (au x (⟨17,f⟩::cB x (m:Int))):=by
 refine⟨aG _ _,λi h1 h2=>nF c (by omega) λr e g=>?_,λb i=>?_⟩
 .obtain ⟨k,j,-,-,h⟩:=jx d e;have:=h.1;omega
 obtain⟨a,rfl,a1,a2,-⟩:=(cH d).1 b i;have b:(bkAt x a).at_=(a:Int):=af x a;rw[b,kqf];refine⟨nF c (by omega) λr e g=>?_,nF c (by omega) λr e g=>?_⟩
 .obtain ⟨k,j,g,l,h⟩:=jx d e;have:=jU d h i;rw[b] at this;omega
 obtain⟨k,j,g,l,h⟩:=jx d e;have:=jU d h i;rw[b] at this;omega
structure FxT (G xs:List Nat) (c:Nat):Prop where
 hd:Hd G xs
 sl:∀i,i<16->slAt xs i=nwS G (gQ G 128 128) i
 done:∀m:Nat,Mk G m->m<c->∀r∈cm G (m:Int),EL G xs (gQ G 128 128) r.toNat
 todo:∀m:Nat,Mk G m->c<=m->∀r∈cm G (m:Int),wd xs r.toNat=wd G r.toNat
 off:∀i:Nat,128<=i->(∀m:Nat,Mk G m->(i:Int) ∉ cm G (m:Int))->wd xs i=wd G i
theorem AM(g:dh x=0):FxT x (au x (⟨17,128⟩::dg x)) 128:=by
 obtain⟨-,j,-,-,-,-,-,l,q2,q3,n,-⟩:=kj g;have b:∀e∈(⟨17,128⟩::dg x:List En),e.a<19\/112<=e.a/\e.a<128:=λe c=>by
  rcases kq0.1 c with rfl|c
  .exact .inl (by dsimp only;omega)
  exact .inr (l e c).1
 have d:∀i:Nat,128<=i->wd (au x (⟨17,128⟩::dg x)) i=wd x i:=λi f=>bj _ _ _ λe c h=>by
  rcases b e c with e|e<;>omega
 refine⟨vG j b,λi f=>?_,λm h e=>?_,λm h e r k=>?_,λi f _=>d i f⟩
 .rw[<-n i f];unfold slAt;rw[jc (by omega)]
 .have:=(si j h).1.1;omega
 obtain⟨i,rfl,-,-,e⟩:=jx j k;rw[kqf];exact d _ (by have:=e.1;omega)
theorem Eo(q:ao G=0)(I:bh G 128 128=0)(o:FxT G x c)(z:Mk x m)(C:c<=m)(k:cM x (m:Int)=0)(H:∀a:Nat,Mk x a->c<=a->a < m->cm x (a:Int)=[]):FxT G (au x (⟨17,m+szAt x m⟩::cB x (m:Int))) (m+szAt x m):=by
 have w:=(o.hd.heap q).1;have F:Mk G m:=(o.hd.mks q).1 z;have u:=o.hd.rs q;obtain⟨hrx,E⟩:=o.hd.rd q I;have hsz:=aC (si w z).1.2.2.2.1;refine⟨o.hd.trans q (ob_hd w k),λi D=>?_,λa h hlt r f=>?_,λa h hle r f=>?_,λi D s=>?_⟩
 .rw[<-o.sl i D];unfold slAt;rw[nF k (by omega) λr f n=>?_];obtain⟨i',J,-,-,v⟩:=jx w f;have:=v.1;omega
 .have l:r∈cm x (a:Int):=by rw[u];exact f
  have d:Mk x a:=(o.hd.mks q).2 h;rcases kkh a m with y|y|y
  .rcases kq8 a c with g|g
   .have b:=o.done a h g r f;obtain⟨i,rfl,-,-,v⟩:=jx q f;rw[kqf] at b |-;have e:wd (au x (⟨17,m+szAt x m⟩::cB x (m:Int))) (a+2+i)=wd x (a+2+i):=nF k (by have:=v.1;omega) λr t n=>by
     subst n;have:=vf w z d t l;omega
    unfold EL at b |-;rw[e];exact b
   rw[H a d g y] at l;cases l
  .subst y;have p:=o.todo a h C r f;obtain⟨g,-,-,-,-,q5,L,-⟩:=ij k;obtain⟨j,K,B⟩:=kqy l;obtain⟨J,-,-,A⟩:=L j K;obtain⟨i,rfl,-,-,v⟩:=jx q f;rw[J] at B;have B:g j=a+2+i:=(by omega);rw[B,E] at A;rw[kqf] at p |-;have e:wd (au x (⟨17,a+szAt x a⟩::cB x (a:Int))) (a+2+i)=wd (au x (cB x (a:Int))) (a+2+i):=jc (by have:=v.1;omega);unfold EL at A |-;rw[e,<-p];rw[o.hd.len] at A;exact A
  have:=kT w z d y;omega
 .have d:Mk x a:=(o.hd.mks q).2 h;have l:r∈cm x (a:Int):=by rw[u];exact f
  have b:=o.todo a h (by omega) r f;obtain⟨i,rfl,-,-,v⟩:=jx q f;rw[kqf] at b |-;rw[nF k (by have:=v.1;omega) λr t n=>?_]
  .exact b
  subst n;have:=vf w z d t l;omega
 rw[nF k (by omega) λr f n=>?_]
 .exact o.off i D s
 subst n;rw[u] at f;exact s m F f
theorem GT(f:ao G=0)(d:FxT G x c)(j:∀m:Nat,Mk x m->c<=m->cm x (m:Int)=[]):FxT G (au x cc) G.length:=by
 have l:=(d.hd.heap f).1;have k:=d.hd.rs f;have b:∀i:Nat,19<=i->wd (au x cc) i=wd x i:=λi g=>bj _ _ _ λe a h=>by
  simp only[cc,kq0,kzm,or_false] at a;rcases a with rfl|rfl|rfl<;>(dsimp only at h;omega)
 have hd:Hd x (au x cc):=vG l λe a=>by
  simp only[cc,kq0,kzm,or_false] at a;rcases a with rfl|rfl|rfl<;>exact .inl (by dsimp only;omega)
 refine⟨d.hd.trans f hd,λi g=>?_,λm e hlt r h=>?_,λm e hle=>?_,λi g a=>(b i (by omega)).trans (d.off i g a)⟩
 .rw[<-d.sl i g];unfold slAt;rw[b _ (by omega)]
 .rcases kq8 m c with g|g
  .have a:=d.done m e g r h;obtain⟨i,rfl,-,-,n⟩:=jx f h;rw[kqf] at a |-;unfold EL at a |-;rw[b _ (by have:=n.1;omega)];exact a
  have:=j m ((d.hd.mks f).2 e) g;rw[k] at this;rw[this] at h;cases h
 have:=(si f e).1.2.2.1;omega
theorem Fp(p:ao G=0)(o:bh G 128 128=0):∀n x,(∀v∈x,v<2^64)->mzS 3 x<=n->I3 x->wd x 17≠0->FxT G x (wd x 17)->FxT G (dF 3 x).2.2 G.length:=by
 intro n
 induction n with
 | zero=>intro x _ h a;exfalso;have:=a.p3;unfold mzS at h;rw[if_pos this] at h;omega
 | succ n A =>
  intro x f h a z q;obtain⟨g,c⟩:=qY f a;have hd:=gj f a.p3 g;have p3:=a.p3;have e:ah x=jp x (wd x 17):=by unfold ah;rw[if_pos a.ck,if_neg (by omega),if_neg (by omega),if_pos p3];unfold sgFix;rw[if_neg z]
  obtain⟨-,y,w,hph⟩:=cP a.ck;have hb:=(ae _).1 y;obtain⟨⟨l1,B,l3⟩,-⟩:=(bo x).1 w;have k:Bd x (wd x 17):=by
   refine GS a.hp ?_;have b:=jH a.ck;unfold cJ at b;by_cases d:mU x (wd x 17)=true
   .exact d
   split at b
   .rw[if_pos ⟨p3,z,by simpa using d⟩] at b;cases b
   exact absurd b (by assumption)
  rw[eE f p3 g];rcases EE a.hp _ (wd x 17) (kqa _) B k a.fx with⟨t,u⟩|⟨m,r,m2,m3,d,C,D⟩
  .rw[t] at e;have i:wd (au x (ah x).2) 16=4:=by rw[e];exact (ie a.ck p3).2.2.2.1
   rw[cU (by omega),if_pos rfl,e];exact GT p q u
  rw[C] at e;have b:cM x (m:Int)=0:=a.fx m d.1 d.2 r;have s:=EZ b;have hm128:=(si a.hp d).1.1;have h:wd (au x (ah x).2) 17=m+szAt x m:=by rw[e];exact kx (j:=17) (by omega) λe l=>by have:=(s e l).1;omega
  have i:wd (au x (ah x).2) 16=3:=by rw[e,jc (by omega),bj _ _ _ λe l=>by have:=(s e l).1;omega];exact p3
  have i:I3 (au x (ah x).2):=by
   rcases c with c|⟨g1,-⟩
   .exact c
   omega
  have a:=(qu _ _ (dY f g) (kqa _) i).1;rw[if_pos a];refine A _ (dY f g) (by omega) i (by omega) ?_;rw[h,e];exact Eo p o q d r b D
theorem GK(d:∀v∈x,v<2^64)(c:I3 x)(z:wd x 17=0):FxT x (dF 3 x).2.2 x.length:=by
 obtain⟨i,b⟩:=qY d c;have p3:=c.p3;have a:=c.sl z;have h:=c.rd;have e:ah x=(0,⟨17,128⟩::dg x):=by unfold ah;rw[if_pos c.ck,if_neg (by omega),if_neg (by omega),if_pos p3];unfold sgFix;rw[if_pos z,if_pos a]
 obtain⟨h256,-,-,-,-,-,-,l,-⟩:=kj a;have f:wd (au x (ah x).2) 17=128:=by rw[e];exact kx (j:=17) (by omega) λe g=>by have:=(l e g).1;omega
 have h16:wd (au x (ah x).2) 16=3:=by rw[e,jc (by omega),bj _ _ _ λe g=>by have:=(l e g).1;omega];exact p3
 have k:I3 (au x (ah x).2):=by
  rcases b with b|⟨g1,-⟩
  .exact b
  omega
 have g:=(qu _ _ (dY d i) (kqa _) k).1;rw[eE d p3 i,if_pos g];refine Fp c.hp h _ _ (dY d i) (kqa _) k (by omega) ?_;rw[f,e];exact AM a
def MvW (G xs:List Nat) (m t:Nat):Prop:=wd xs t=cQ { aq (wd G m) with mark:=false }/\wd xs (t+1)=0/\∀j,2<=j->j<szAt G m->wd xs (t+j)=wd G (m+j)
structure SlT (G xs:List Nat) (k F T:Nat):Prop where
 len:xs.length=G.length
 low:∀i,19<=i->i<128->wd xs i=wd G i
 up:∀i,T<=i->128<=i->wd xs i=wd G i
 kle:k<=(aa G).length
 bl:blocks G F=some ((aa G).drop k)
 to:aN ((aa G).take k) 128=(T:Int)
 mv:∀p∈aA ((aa G).take k) 128,∃m t:Nat,p=((m:Int),(t:Int))/\MvW G xs m t/\128<=t/\t+szAt G m<=T/\2<=szAt G m
theorem unlive(h:b.mark=false):aE b=false:=by unfold aE;rw[h];simp
theorem uP:∀ {l:List Bk} {s:Int},fv l l.length->aN l s=s/\aA l s=[]:=by
 intro l
 induction l with
 | nil=>intro s _;exact⟨rfl,rfl⟩
 | cons b l f =>
  intro s h;have a:b.mark=false:=h 0 (by simp);obtain⟨d,e⟩:=f (s:=s) λj c=>by have:=h (j+1) (by simpa using c);rwa [ji] at this
  simp only[aN,aA,unlive a];exact⟨d,e⟩
theorem t6(hk:k<=l.length)(h:fv l k):fv (l.take k) (l.take k).length:=by intro j a;rw[kq6] at a;have:=h j (by omega);unfold gk at this |-;rw[kk4,if_pos (by omega)];exact this
theorem FV(f:aB x=0)(h:wd x 16=4)(b:bu x ((wd x 17:Nat):Int)=0)(c:(ah x).1=0)(g:iI x ((wd x 17:Nat):Int)=bkAt x m):ah x=(0,⟨17,m+szAt x m⟩::⟨18,wd x 18+szAt x m⟩::jj x m (wd x 18))/\ei x (m:Int) ((wd x 18:Nat):Int)=0:=by
 have e:ah x=sgSld x:=by unfold ah;rw[if_pos f,if_neg (by omega),if_neg (by omega),if_neg (by omega),if_pos h]
 rw[e] at c |-;have a:ei x (m:Int) ((wd x 18:Nat):Int)=0:=by
  by_cases d:ei x (m:Int) ((wd x 18:Nat):Int)=0
  .exact d
  unfold sgSld at c;rw[if_pos b,g,af,if_neg d] at c;exact absurd c d
 refine⟨?_,a⟩;unfold sgSld;rw[if_pos b,g,af,if_pos a,aU,show ((m:Int)+((szAt x m:Nat):Int)).toNat=m+szAt x m by omega,show (((wd x 18:Nat):Int)+((szAt x m:Nat):Int)).toNat=wd x 18+szAt x m by omega];unfold i9;rw[if_pos a,kqf,kqf]
theorem DN{u:Nat}(b:u+szAt x a<=x.length)(h19:19<=i):wd (au x (⟨17,f⟩::⟨18,u+szAt x a⟩::jj x a u)) i=if u<=i/\i<u+szAt x a then (if i=u then cQ { aq (wd x a) with mark:=false } else if i=u+1 then 0 else wd x (a+(i-u))) else wd x i:=by
 rw[jc (by omega),jc (by omega),B7 b,rl _ _ _ _ (by rw[gY];exact b),gY];by_cases h:u<=i/\i<u+szAt x a
 .rw[if_pos h,if_pos h,kt _ _ _ (by omega),kq9];by_cases c:i=u
  .rw[if_pos (by omega),if_pos c]
  rw[if_neg (by omega),if_neg c];by_cases d:i=u+1
  .rw[if_pos (by omega),if_pos d]
  rw[if_neg (by omega),if_neg d]
 rw[if_neg h,if_neg h]
theorem DL(d:SlT G x k F T)(q:128<=T)(hTF:T<=F)(Q:bu x (F:Int)=0)(e:iI x (F:Int)=bkAt x m):∃k',SlT G (au x (⟨17,m+szAt x m⟩::⟨18,T+szAt x m⟩::jj x m T)) k' (m+szAt x m) (T+szAt x m)/\F<=m/\aA ((aa G).take k') 128=aA ((aa G).take k) 128++[((m:Int),(T:Int))]:=by
 obtain⟨-,-,-,b,O,C,p2,p3,p4,p5,p6,M,N,l,S,-,-,g,U,V,W⟩:=fA Q;have a:b=m:=by have:=O.symm.trans e;have c:=congrArg Bk.at_ this;rw[af,af] at c;omega
 subst a;have c:∀i,F<=i->wd x i=wd G i:=λi o=>d.up i (by omega) (by omega);have r:blocks G F=blocks x F:=(eC d.len F λj a=>c j a).symm;rw[d.bl,S] at r;obtain rfl:=Option.some.inj r;rw[kz2] at U;have y:k+g<(aa G).length:=(by omega);have J:blocks G b=some (((aa G).drop k).drop g):=by rw[<-W];exact (eC d.len b λj a=>c j (by omega)).symm
 have A:szAt x b=szAt G b:=by unfold szAt;rw[c b C]
 have E:bkAt x b=bkAt G b:=by unfold bkAt;rw[c b C,c (b+1) (by omega)]
 obtain⟨f1,P,f3,K⟩:=cj J (by rw[<-d.len];omega);rw[kxr,kxr] at K;have w:(aa G)[k+g]=bkAt G b:=by rw[<-P];unfold gk;rw[kxr,kjh,kxb,kqg y,kq9]
 have B:(aa G).take (k+g+1)=(aa G).take k++(((aa G).drop k).take g++[bkAt G b]):=by rw[kqi y,w,List.take_add,kx9]
 have I:=t6 (l:=(aa G).drop k) (k:=g) (by rw[kz2];omega) V;obtain⟨L,R⟩:=uP (s:=(T:Int)) I;have z:aE (bkAt G b)=true:=by rw[E] at M N;unfold aE;rw[M,N];rfl
 have v:aN ((aa G).take (k+g+1)) 128=((T+szAt x b:Nat):Int):=by rw[B,iq,iq,d.to,L];simp only[aN,z,if_true];rw[aU,A];omega
 have h:aA ((aa G).take (k+g+1)) 128=aA ((aa G).take k) 128++[((b:Int),(T:Int))]:=by rw[B,gb,gb,d.to,L,R];simp only[aA,z,if_true,kz5];rw[af]
 have H:T+szAt x b<=x.length:=(by omega);have n:=λi (o:19<=i)=>DN (x:=x) (a:=b) (f:=b+szAt x b) (u:=T) (i:=i) H o;refine⟨k+g+1,⟨?_,λi t D=>?_,λi t D=>?_,by omega,?_,v,λp o=>?_⟩,C,h⟩
 .rw[aG];exact d.len
 .rw[n i t,if_neg (by omega)];exact d.low i t D
 .rw[n i (by omega),if_neg (by omega)];exact d.up i (by omega) D
 .rw[A,K,kki]
 rw[h] at o;rcases kz1.1 o with o|o
 .obtain ⟨a,t,rfl,⟨Y,Z,w3⟩,D,t2,X⟩:=d.mv p o;refine⟨a,t,rfl,⟨?_,?_,λj i p=>?_⟩,D,by omega,X⟩
  .rw[n _ (by omega),if_neg (by omega)];exact Y
  .rw[n _ (by omega),if_neg (by omega)];exact Z
  rw[n _ (by omega),if_neg (by omega)];exact w3 j i p
 rw[kq2] at o;subst o;refine⟨b,T,rfl,⟨?_,?_,λj i p=>?_⟩,q,by omega,by omega⟩
 .rw[n _ (by omega),if_pos (by omega),if_pos rfl,c b C]
 .rw[n _ (by omega),if_pos (by omega),if_neg (by omega),if_pos rfl]
 rw[n _ (by omega),if_pos (by omega),if_neg (by omega),if_neg (by omega),show T+j-T=j by omega];exact c _ (by omega)
structure SlE (G xs:List Nat) (T:Nat):Prop where
 len:xs.length=G.length
 low:∀i,19<=i->i<128->wd xs i=wd G i
 up:∀i,T<=i->128<=i->wd xs i=wd G i
 to:aN (aa G) 128=(T:Int)
 mv:∀p∈aA (aa G) 128,∃m t:Nat,p=((m:Int),(t:Int))/\MvW G xs m t/\128<=t/\t+szAt G m<=T/\2<=szAt G m
theorem GV(l:ao G=0)(a:SlT G x k F T)(h128:128<=T)(hTF:T<=F)(e:F<=G.length)(d:F%2=0)(n:bu x (F:Int)≠0):SlE G x T:=by
 have f:∀i,F<=i->wd x i=wd G i:=λi hi=>a.up i (by omega) (by omega);have g:blocks x F=some ((aa G).drop k):=by rw[eC a.len F λj b=>f j b];exact a.bl
 have hz:(fC ((aa G).drop k)).length=0:=by
  rcases kjc (fC ((aa G).drop k)).length with c|c
  .exact c
  obtain⟨m,z,l',h,-⟩:=od (by rw[a.len];exact (ax l).1) (by omega) (by rw[a.len];exact e) d g c;exact absurd h n
 have c:fv ((aa G).drop k) ((aa G).drop k).length:=by
  intro j b;unfold gk;rw[kqg b,kq9];cases h:(((aa G).drop k)[j]).mark with
  | false=>rfl
  | true =>
   have:(((aa G).drop k)[j]).at_∈fC ((aa G).drop k):=by unfold fC;exact kz9.2 ⟨_,kzy.2 ⟨kqp b,h⟩,rfl⟩
   have:=List.length_pos_of_mem this;omega
 obtain⟨h,i⟩:=uP (s:=(T:Int)) c;refine⟨a.len,a.low,a.up,?_,λp b=>a.mv p ?_⟩
 .conv=>lhs;rw[<-kz6 k (aa G)]
  rw[iq,a.to,h]
 rw[<-kz6 k (aa G),gb,a.to,i,kzf] at b;exact b
theorem Hr(z:ao G=0):∀n x k,(∀v∈x,v<2^64)->mzS 4 x<=n->aB x=0->wd x 16=4->SlT G x k (wd x 17) (wd x 18)->(dF 4 x).1=0/\wd (dF 4 x).2.2 16=4/\aB (dF 4 x).2.2=0/\bu (dF 4 x).2.2 ((wd (dF 4 x).2.2 17:Nat):Int)≠0/\SlE G (dF 4 x).2.2 (wd (dF 4 x).2.2 18):=by
 intro n
 induction n with
 | zero=>intro x k _ h _ d;exfalso;unfold mzS at h;rw[if_pos d] at h;omega
 | succ n E =>
  intro x k g h b d p;obtain⟨-,u,B,o⟩:=cP b;obtain⟨⟨l1,l2,l3⟩,-⟩:=(bo x).1 B;have c:lG (wd x 17)=true/\lG (wd x 18)=true/\wd x 18<=wd x 17:=by
   rcases (cy _ _ _).1 o with a|a|a
   .exact a.2
   .omega
   omega
  have D:=(a9 _).1 c.1;have w:=(a9 _).1 c.2.1;by_cases a:bu x ((wd x 17:Nat):Int)=0
  .obtain ⟨h,F,s⟩:=FD g b d a;obtain⟨-,-,-,m,t,m1,-⟩:=fA a;obtain⟨e,hmv⟩:=FV b d a h t;obtain⟨y,r,hFm,-⟩:=DL p w.1 c.2.2 a t;have hd:=gj g d h;have i:wd (au x (ah x).2) 17=m+szAt x m:=by
    rw[e];have A:=(ae _).1 u;refine kx (j:=17) (by omega) λe f=>?_;rcases kq0.1 f with rfl|f
    .dsimp only;omega
    obtain⟨q,C,rfl⟩:=kqy f;rw[hU];omega
   have l:wd (au x (ah x).2) 18=wd x 18+szAt x m:=by rw[e,jc (by omega)];have A:=(ae _).1 u;refine kx (j:=18) (by omega) λe f=>?_;obtain⟨q,C,rfl⟩:=kqy f;rw[hU];omega
   have f:SlT G (au x (ah x).2) y (wd (au x (ah x).2) 17) (wd (au x (ah x).2) 18):=by rw[i,l,e];exact r
   obtain⟨q,A⟩:=E _ y (dY g h) (by omega) s F f;rw[eE g d h,if_pos q];exact⟨rfl,A⟩
  have e:(ah x).1=6:=by unfold ah;rw[if_pos b,if_neg (by omega),if_neg (by omega),if_neg (by omega),if_pos d];unfold sgSld;rw[if_neg a]
  rw[ld d e];exact⟨rfl,d,b,a,GV z p w.1 c.2.2 (by rw[<-p.len];omega) D.2.2 a⟩
theorem Dh(a:ao x=0):SlT x x 0 128 128:=⟨rfl,λ_ _ _=>rfl,λ_ _ _=>rfl,kqv _,(gw a).2.2.2,rfl,λp b=>by simp[aA] at b⟩
noncomputable def v1 (x:List Nat):List Nat:=(dF 1 x).2.2
noncomputable def v2 (x:List Nat):List Nat:=(dF 2 (v1 x)).2.2
noncomputable def v3 (x:List Nat):List Nat:=(dF 3 (v2 x)).2.2
noncomputable def v4 (x:List Nat):List Nat:=(dF 4 (v3 x)).2.2
noncomputable def vE (x:List Nat):List Nat:=au (v4 x) (du (v4 x))
theorem end_rs(m:∀v∈x,v<2^64)(b:aB x=0)(g:wd x 16=4)(c:bu x ((wd x 17:Nat):Int)≠0):rsE x=(0,[du x],au x (du x)):=by
 have a:=F1 b g c;have l:(ah x).1=6:=by unfold ah;rw[if_pos b,if_neg (by omega),if_neg (by omega),if_neg (by omega),if_pos g];unfold sgSld;rw[if_neg c]
 have f:dy x=(0,false,du x):=by unfold dy;rw[if_pos l,if_neg (by omega),a]
 obtain⟨os,-,-,-,h,-,-,i,-⟩:=CK a;have j:=(wi a).2;have e:aB (au x (du x))=0:=by unfold aB;rw[if_pos i,if_neg (by omega),if_neg (by omega)];exact h
 have k:(ah (au x (du x))).1=6:=by unfold ah;rw[if_pos e,if_neg (by omega),if_neg (by omega),if_neg (by omega),if_neg (by omega)]
 have d:dy (au x (du x))=(0,true,[]):=by unfold dy;rw[if_pos k,if_pos j]
 rw[kZ m (by rw[f]) (by rw[f]),f];dsimp only;rw[mO (by rw[d]) (by rw[d]),if_pos rfl]
structure CpF (x:List Nat):Prop where
 e1:(dF 1 x).1=0
 e2:(dF 2 (v1 x)).1=0
 e3:(dF 3 (v2 x)).1=0
 e4:(dF 4 (v3 x)).1=0
 o1:∀v∈v1 x,v<18446744073709551616
 o2:∀v∈v2 x,v<18446744073709551616
 o3:∀v∈v3 x,v<18446744073709551616
 o4:∀v∈v4 x,v<18446744073709551616
 c1:aB (v1 x)=0
 c2:aB (v2 x)=0
 c3:aB (v3 x)=0
 c4:aB (v4 x)=0
 p1:wd (v1 x) 16=2
 p2:wd (v2 x) 16=3
 p3:wd (v3 x) 16=4
 p4:wd (v4 x) 16=4
 n1:1<=(dF 1 x).2.1.length
 n2:1<=(dF 2 (v1 x)).2.1.length
 n3:1<=(dF 3 (v2 x)).2.1.length
 h1:ao (v1 x)=0
 h2:ao (v2 x)=0
 h3:ao (v3 x)=0
 r1:RmL x (v1 x)
 s1:HsL x (v1 x)
 m1:fC (aa (v1 x))=fB x
 k1:aK (v1 x)=0
 r2:NxL (v1 x) (v2 x)
 d2:bh (v2 x) 128 128=0
 z2:wd (v2 x) 17=0
 r3:FxT (v2 x) (v3 x) (v2 x).length
 r4:SlE (v3 x) (v4 x) (wd (v4 x) 18)
 l4:∀i,i<16\/19<=i/\i<112->wd (v4 x) i=wd x i
 nx:bu (v4 x) ((wd (v4 x) 17:Nat):Int)≠0
 en:dJ (v4 x)=0
 all:rsE x=(0,(dF 1 x).2.1++((dF 2 (v1 x)).2.1++((dF 3 (v2 x)).2.1++((dF 4 (v3 x)).2.1++[du (v4 x)]))),vE x)
theorem kO(a:∀v∈x,v<2^64)(e:(dF p x).1=0){L:List (List En)}{y:List Nat}(h:rsE (dF p x).2.2=(0,L,y)):rsE x=(0,(dF p x).2.1++L,y):=by have:=(zv (p:=p) _ x a (kqa _)).2 e;unfold zw at this;rw[this,h,if_pos rfl]
theorem cpF(g:∀v∈x,v<2^64)(T:wd x 16=1)(e:aB x=0)(h:aK x=0):CpF x:=by
 obtain⟨j,k,H,Y⟩:=uN _ x g (kqa _) T e h;obtain⟨I,J,l,K,u⟩:=D7 _ x g (kqa _) T e h;have c:=(ll (p:=1) _ x g (kqa _) j).1;have V:=λi a=>qj (p:=1) (i:=i) a _ x g (kqa _) j
 change ∀v∈v1 x,_ at c
 change wd (v1 x) 16=2 at k
 change cK (v1 x)=0 at H
 change RmL x (v1 x) at I
 change HsL x (v1 x) at J
 change aK (v1 x)=0 at l
 change fB (v1 x)=_ at K
 change fC (aa (v1 x))=_ at u
 change ∀i,_->wd (v1 x) i=_ at V
 have q:=(aL l).1;have w:aB (v1 x)=0:=zd H (by omega) (by omega) q;obtain⟨m,y,n,L,Z,M,N⟩:=uU _ (v1 x) c (kqa _) k w;obtain⟨o,O⟩:=Hi _ (v1 x) c (kqa _) k w;have b:=(ll (p:=2) _ (v1 x) c (kqa _) m).1;have W:=λi a=>qj (p:=2) (i:=i) a _ (v1 x) c (kqa _) m
 change ∀v∈v2 x,_ at b
 change wd (v2 x) 16=3 at y
 change wd (v2 x) 17=0 at n
 change cK (v2 x)=0 at L
 change bh (v2 x) 128 128=0 at M
 change ao (v2 x)=0 at N
 change NxL (v1 x) (v2 x) at o
 change aI (v2 x)=[] at O
 change ∀i,_->wd (v2 x) i=_ at W
 obtain⟨-,G,U⟩:=o.same q;rw[l] at G;rw[K] at U;have A:aO (v2 x)=[]:=GN G (by rw[(o.mkd q).1,u,U]);have z:=Bq b L y n G A O;obtain⟨r,B,P,Q,C,s,i7⟩:=qu _ (v2 x) b (kqa _) z;have R:=GK b z n;have d:=(ll (p:=3) _ (v2 x) b (kqa _) r).1;have X:=λi a=>qj (p:=3) (i:=i) a _ (v2 x) b (kqa _) r
 change ∀v∈v3 x,_ at d
 change wd (v3 x) 16=4 at B
 change wd (v3 x) 17=128 at P
 change wd (v3 x) 18=128 at Q
 change aB (v3 x)=0 at C
 change ao (v3 x)=0 at s
 change FxT (v2 x) (v3 x) _ at R
 change ∀i,_->wd (v3 x) i=_ at X
 obtain⟨t,D,E,F,k5⟩:=Hr s _ (v3 x) 0 d (kqa _) C B (by rw[P,Q];exact Dh s);have S:=(ll (p:=4) _ (v3 x) d (kqa _) t).1;have w4:=λi a=>qj (p:=4) (i:=i) a _ (v3 x) d (kqa _) t;have f:=end_rs S E D F;have q4:=kO d t f;have q3:=kO b r q4;have q2:=kO c m q3;have q1:=kO g j q2;exact⟨j,m,r,t,c,b,d,S,w,z.ck,C,E,k,y,B,D,Y,Z,i7,q,N,s,I,J,u,l,o,M,n,R,k5,λi a=>(w4 i a).trans ((X i a).trans ((W i a).trans (V i a))),F,F1 E D F,q1⟩
noncomputable def mkS (x:List Nat) (b:Bk):Bk:={ b with mark:=dH x b }
noncomputable def cpL (x:List Nat):List Bk:=(aa x).map (mkS x)
noncomputable def cpM (x:List Nat):List (Int × Int):=aA (cpL x) 128
def FxV (M:List (Int × Int)) (v u:Nat):Prop:=(v=0/\u=0)\/(0<v/\gq M (v:Int)=some (u:Int))
section
variable {x:List Nat}
structure CpD (w z:List Nat) (M:List (Int × Int)) (T:Nat):Prop where
 len:z.length=w.length
 low:∀i,i<16\/19<=i/\i<112->wd z i=wd w i
 line:wd z 16=0/\wd z 17=0/\wd z 18=0
 sl:∀i,i<16->slAt z i=nwS w M i
 obj:∀p∈M,∃m t:Nat,p=((m:Int),(t:Int))/\Rch w m/\128<=t/\t+szAt w m<=T/\2<=szAt w m/\wd z t=cQ { aq (wd w m) with mark:=false }/\wd z (t+1)=0/\(∀i,(flds w m)[i]? = some 3->FxV M (wd w (m+2+i)) (wd z (t+2+i)))/\∀i,2+i<szAt w m->(flds w m)[i]? ≠ some 3->wd z (t+2+i)=wd w (m+2+i)
 to:128<=T/\T<=w.length/\T%2=0
 free:T<w.length->wd z T=cQ (eQ (w.length-T))/\wd z (T+1)=0
 rest:∀i,T+2<=i->(∀b∈aa w,(i:Int)≠b.at_/\(i:Int)≠b.at_+1)->(∀m,Rch w m->¬ (m<=i/\i<m+szAt w m))->wd z i=wd w i
end
structure Lay (G:List Nat) (t:Nat):Prop where
 size:am (G.length:Int)=true
 ty:tyN G=some t
 z16:∀i,16<=i->i<32->wd G i=0
 tys:iG G t=true
 sls:slsOk G=true
 hp:ao G=0
 adj:kE (aa G)=true
 wr:∀r,7<=r->r<12->∀b∈aP (aa G),wrK G (iu G t 8) (aP (aa G)) r b=false
 sl:∀i,i<16->kn (aP (aa G)) (slAt G i)=true
theorem wh(h:tyN G=some t):am (G.length:Int)=true:=by
 cases a:am (G.length:Int) with
 | true=>rfl
 | false=>rw[(ti a).1] at h;cases h
theorem mh(G:List Nat)(T:List (List Nat))(O:List Bk)(r a z d:Nat)(k:Int)(b:Bool)(c:Nat):wrK G T O r ⟨(a:Int),(z:Int),k,(d:Int),b,c⟩=wrB G T O a z d b c r:=by unfold wrK;simp only[kqf]
theorem zF(b:t<=8)(a:i<t):(iu G t 8)[i]? = some (bB (wd G (96+2*i)) (wd G (96+2*i+1))):=by unfold iu;rw[kxo b,kxk,kqg (by rw[kko];exact a)];simp
theorem lay_hp(n:tyN G=some t)(m:blocks G 128=some l)(k:iG G t=true)(r:∀b∈aP l,wrK G (iu G t 8) (aP l) 8 b=false):ao G=0/\aa G=l:=by
 refine gI (wh n) m ?_;rw[kzt];intro b s;by_cases i:b.kind=1
 .have d:b∈aP l:=kzy.2 ⟨s,by rw[kqw];exact i⟩;have h:=r b d;obtain⟨a,z,g,nx,mk,e,a1,a2,a3,a4,a5⟩:=ir m d;rw[iC i];rw[e] at h;rw[mh] at h;have h:(!decide (g<(iu G t 8).length)||bp (((iu G t 8)[g]?).getD []).length != z)=false:=h;rw[kzo] at h;have j:=vM n;have f:g<t:=by have:=h.1;rw[ww] at this;simp at this;omega
  rw[zF j f,kq9] at h;have c:=(jz G t).1 k g (by omega);unfold Dr at c;rw[if_pos f] at c;have o:=h.2;rw[kqt] at o;have p:tyA b=96+2*g:=by rw[e];unfold tyA;simp
  have q:b.size=(z:Int):=by rw[e]
  rw[p,c,q,<-o];simp
 rw[eY i]
theorem Gf(h:lay G=true):∃t,Lay G t:=by
 cases a:tyN G with
 | none=>rw[o8 (.inl a)] at h;cases h
 | some t =>
  cases d:blocks G 128 with
  | none=>rw[o8 (.inr d)] at h;cases h
  | some l =>
   obtain⟨e,f,g,k,l,j,m⟩:=(qC a d).1 h;obtain⟨n,c⟩:=lay_hp a d g (λb i=>j 8 (by omega) (by omega) b i);refine⟨t,wh a,a,λi hi1 hi2=>?_,g,k,n,by rw[c];exact l,by rw[c];exact j,λi b=>by
    rw[c];exact m _ (kz9.2 ⟨i,kzn.2 b,rfl⟩)⟩
   rw[oD] at e f;rcases kq8 i 24 with b|b
   .have:=e (i-16) (by omega);rwa [show 16+(i-16)=i by omega] at this
   have:=f (i-24) (by omega);rwa [show 24+(i-24)=i by omega] at this
section
variable {G:List Nat} {t:Nat}
theorem wu(h:ao G=0):mw (aP (aa G)) v=true↔fG G v:=by
 unfold mw;rw[kx1];constructor
 .rintro ⟨b,j,e⟩;rw[kqw] at e;obtain⟨i,d⟩:=kzy.1 j;rw[kqw] at d;obtain⟨k,c,rfl⟩:=kqy i;obtain⟨a,f,g⟩:=ma h c d;rw[f,af] at e;obtain rfl:a=v:=(by omega);exact g
 intro a;obtain⟨k,c,e,-⟩:=a.2.2.2.2.2.2;exact⟨bkAt G v,kzy.2 ⟨by rw[<-e];exact kqp c,by rw[kqw];exact a.2.2.2.2.1⟩,by rw[kqw,af]⟩
theorem Hy(b:fG G a):bkAt G a∈aP (aa G):=by obtain⟨k,c,e,-⟩:=b.2.2.2.2.2.2;exact kzy.2 ⟨by rw[<-e];exact kqp c,by rw[kqw];exact b.2.2.2.2.1⟩
theorem Lay.obj(h:Lay G t)(k:fG G a):(aq (wd G a)).mark=false/\wd G (a+1)=0/\(aq (wd G a)).typ.toNat<t/\(iu G t 8)[(aq (wd G a)).typ.toNat]? = some (flds G a)/\szAt G a=bp (flds G a).length/\(∀r,7<=r->r<12->wrB G (iu G t 8) (aP (aa G)) a (szAt G a) (aq (wd G a)).typ.toNat (aq (wd G a)).mark (wd G (a+1)) r=false):=by
 have j:=Hy k;have i:bkAt G a=⟨(a:Int),((szAt G a:Nat):Int),(aq (wd G a)).kind,(((aq (wd G a)).typ.toNat:Nat):Int),(aq (wd G a)).mark,wd G (a+1)⟩:=by
  have b:(aq (wd G a)).typ=(((aq (wd G a)).typ.toNat:Nat):Int):=by unfold aq;dsimp only;omega
  rw[<-b];rfl
 have b:∀r,7<=r->r<12->wrB G (iu G t 8) (aP (aa G)) a (szAt G a) (aq (wd G a)).typ.toNat (aq (wd G a)).mark (wd G (a+1)) r=false:=by intro r c d;have:=h.wr r c d _ j;rw[i,mh] at this;exact this
 have f:((aq (wd G a)).mark||decide (0<wd G (a+1)))=false:=b 7 (by omega) (by omega);rw[kzo,kqb] at f;have d:(!decide ((aq (wd G a)).typ.toNat<(iu G t 8).length)||bp (((iu G t 8)[(aq (wd G a)).typ.toNat]?).getD []).length != szAt G a)=false:=b 8 (by omega) (by omega);rw[kzo,kqt] at d;have e:=vM h.ty;have c:(aq (wd G a)).typ.toNat<t:=by have:=d.1;rw[ww] at this;simp at this;omega
 have g:=zF (G:=G) e c;rw[g,kq9] at d;exact⟨f.1,by omega,c,g,d.2.symm,b⟩
theorem Lay.ref(h:Lay G t)(j:fG G a)(e:(flds G a)[i]? = some 3)(hv:wd G (a+2+i)≠0):fG G (wd G (a+2+i)):=by
 obtain⟨-,-,-,f,-,g⟩:=h.obj j;have b:=g 11 (by omega) (by omega);have b:((List.range (((iu G t 8)[(aq (wd G a)).typ.toNat]?).getD []).length).any λi=>wrF G (((iu G t 8)[(aq (wd G a)).typ.toNat]?).getD []) (aP (aa G)) a 11 i)=false:=b;rw[f,kq9,kkc] at b;have c:=(kzd.1 e).1;have:=b i (kzn.2 c);unfold wrF at this;rw[if_neg (by decide),e] at this;simp only[beq_self_eq_true,kzx,Bool.not_eq_true,kj6,kqb,kk3] at this;rw[<-wu h.hp];rcases this with d|d
 .omega
 exact d
theorem Lay.slot(h:Lay G t)(a:i<16)(b:(slAt G i).used=true):fG G (slAt G i).at_.toNat:=by
 have:=h.sl i a;unfold kn at this;rw[b] at this;rw[<-wu h.hp]
 simpa using this
theorem Lay.rch(h:Lay G t)(c:Rch G a):fG G a:=by
 induction c with
 | slot i b d=>exact h.slot b d
 | ref _ i _ _ d e f =>have b:=h.ref f d e;have hlt:=b.2.2.1;have hb:=(ae _).1 h.size;rw[kxo (by omega)];exact b
theorem Lay.rc(h:Lay G t):aK G=0:=FJ h.hp h.sls λ_ a=>(obj_tb h.hp (h.rch a)).2
end
def qt (G:List Nat):List Nat:=au G [⟨16,1⟩]
noncomputable def cpZ (G:List Nat):List Nat:=vE (qt G)
noncomputable def cpT (G:List Nat):Nat:=(aN (cpL G) 128).toNat
theorem Gu(G:List Nat):(qt G).length=G.length:=aG _ _
theorem qD(h:i≠16):wd (qt G) i=wd G i:=bj _ _ _ λe a=>by rw[kq2] at a;subst a;dsimp only;omega
theorem Jd(b:∀v∈G,v<2^64):∀v∈qt G,v<18446744073709551616:=ue _ _ b λe a=>by rw[kq2] at a;subst a;dsimp only;omega
theorem x1_nx(G:List Nat):NxL G (qt G):=pY λe a=>by rw[kq2] at a;subst a;exact .inl (by dsimp only;omega)
theorem Lay.first(h:Lay G t):wd (qt G) 16=1/\aB (qt G)=0/\aK (qt G)=0/\fB (qt G)=fB G:=by
 have hb:=(ae _).1 h.size;have b:wd (qt G) 16=1:=kx (j:=16) (l:=[]) (by omega) (λe a=>by cases a);obtain⟨d,e,f⟩:=(x1_nx G).same h.hp;have a:=h.z16;have c:cK (qt G)=0:=by
  refine Ce (by rw[Gu];exact h.size) ?_ ?_
  .rw[bo,Gu,b,qD (by omega),qD (by omega),qD (by omega),qD (by omega),qD (by omega),qD (by omega),qD (by omega),a 17 (by omega) (by omega),a 18 (by omega) (by omega),a 19 (by omega) (by omega),a 20 (by omega) (by omega),a 21 (by omega) (by omega),a 22 (by omega) (by omega),a 23 (by omega) (by omega)];omega
  rw[b,qD (by omega),qD (by omega),a 17 (by omega) (by omega),a 18 (by omega) (by omega)];rfl
 exact⟨b,zd c (by omega) (by omega) d,by rw[e];exact h.rc,f⟩
section
variable {G:List Nat} {t:Nat}
theorem Lay.run(h:Lay G t)(d:∀v∈G,v<2^64):CpF (qt G):=by obtain⟨a,b,c,-⟩:=h.first;exact cpF (Jd d) a b c
end
theorem zz :∀i l,blocks G i=some l->(∀b∈l,(i:Int)<=b.at_/\0<b.size)/\l.Pairwise (λa b=>a.at_+a.size<=b.at_):=by
 refine dX _ (λi _=>⟨λb h=>by simp at h,List.Pairwise.nil⟩) (λi l hi c hb a=>?_);have hsz:=aC c;refine⟨λb h=>?_,List.Pairwise.cons (λb h=>?_) a.2⟩
 .rcases kq0.1 h with rfl|h
  .rw[af,aU];omega
  have:=a.1 b h;omega
 have:=(a.1 b h).1;rw[af,aU];omega
section
variable {w z:List Nat} {t:Nat}
structure CpMv (w:List Nat):Prop where
 fst:(cpM w).map Prod.fst=fB w
 inc:(cpM w).Pairwise (λp q=>p.1<q.1)
 snd:(cpM w).Pairwise (λp q=>p.2<q.2)
 dn:∀p∈cpM w,128<=p.2/\p.2<=p.1
end
section
variable {w z:List Nat} {t:Nat}
structure CpR (w z:List Nat) (t:Nat):Prop where
 L:Lay w t
 D:CpD w z (cpM w) (cpT w)
 E:aN (cpL w) 128=(cpT w:Int)
 V:CpMv w
end
section
variable {w z:List Nat} {t:Nat}
end
end Go.Proofs.YtpcajamacpbjcaaGreat
