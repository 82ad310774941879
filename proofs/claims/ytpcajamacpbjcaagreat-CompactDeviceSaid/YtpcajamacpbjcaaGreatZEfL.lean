/- Going on is linear in the heap: what the changes that are left take at most. Plain. -/
import Derived.Test.YtpcajamacpbjcaaGreatZKRs
import Derived.Test.YtpcajamacpbjcaaGreatZKEff
set_option maxHeartbeats 16000000
set_option linter.all false
namespace Go.Proofs.YtpcajamacpbjcaaGreat
open Go.RowKit
variable {ws x:List Nat}
theorem xT{α:Type}{p q:α->Bool}:∀ {l:List α},(∀b∈l,q b=true->p b=true)->(l.filter q).length+(l.filter (λb=>p b && !q b)).length<=(l.filter p).length:=by
 intro l
 induction l with
 | nil=>intro _;exact kqa _
 | cons c l ih =>
  intro h;have i1:=ih λx d=>h x (kxw _ d);have e:=h c (by simp);rw[kxr,kxr,kxr];cases a:q c with
  | true=>rw[e a];simp only[if_true,if_false,kvn,kjv,kzh,kq0];omega
  | false=>cases hp:p c<;>simp only[if_true,if_false,kvb,Bool.and_true,kzh,kq0]<;>omega
theorem wT(h:aC ws=0)(h32:32<=(aK ws).length):(aK (ak ws ((aK ws).take 31))).length+31<=(aK ws).length:=by
 have c:((aK ws).take 31).Sublist (aK ws):=kxt _ _;have r:((aK ws).take 31).Pairwise (λa b=>a.a<b.a):=(dg h).sublist c;obtain⟨K,g2,O,g4,N⟩:=(gp h c).same h;have u:(aK ws).length=((af ws).filter λb=>!cG (seenL ws) b).length:=by rw[dd h,kzo];rfl
 have J:∀b∈((af ws).filter λb=>!cG (seenL ws) b).take 31,yE ws (seenL ws) b∈(aK ws).take 31:=by intro b i;rw[dd h,<-List.map_take];exact kjk i
 have j:=h32;rw[u] at j |-;rw[dd K,O,N,kzo];obtain⟨x,B⟩:=xq (ak ws ((aK ws).take 31));rw[B];unfold lw;rw[List.filter_map,kzo];have d:=ch (aI h).1;have C:∀b∈af ws,(∀e∈(aK ws).take 31,e.a≠b.at_)->(mkB x b).mark=b.mark:=by intro b i F;obtain⟨a,rfl,a1,a2,a3,a4⟩:=d.1 b i;show oC x (bkAt ws a).at_.toNat=_;rw[ab,kqj];unfold oC;rw[<-B,aU _ _ _ (λe o=>by have:=F e o;rwa [ab] at this)];rfl
 have t:∀e∈(aK ws).take 31,∃b∈af ws,b.at_=e.a/\(!cG (seenL ws) b)=true/\(!(cG (seenL ws) (mkB x b)))=false:=by
  intro e o;obtain⟨a,m,I,G,L,v,s,y,k⟩:=dh h (c.subset o);refine⟨bkAt ws a,m,by rw[y,ab],by rw[k];rfl,?_⟩;have g:=du _ ws r _ o (by rw[y];dsimp only;omega) (by rw[y];dsimp only;omega);rw[y] at g;dsimp only at g;rw[kqj,B] at g;unfold cG;show (!((mkB x (bkAt ws a)).mark==((seenL ws)[(bkAt ws a).at_.toNat]?.getD false)))=false;have E:(mkB x (bkAt ws a)).mark=ew ws (bkAt ws a):=by show oC x (bkAt ws a).at_.toNat=_;rw[ab,kqj];unfold oC;rw[g,(hU v s _).2.1]
  rw[E];unfold ew;simp
 have key:=xT (l:=af ws) (p:=λb=>!cG (seenL ws) b) (q:=(λb=>!cG (seenL ws) b) ∘ mkB x) (λb i n=>by
  dsimp only[Function.comp_apply] at n |-;cases D:cG (seenL ws) b with
  | false=>rfl
  | true =>
   exfalso;have m:=C b i (λe o z=>by
    obtain⟨a,m,I,G,L,v,s,rfl,k⟩:=dh h (c.subset o);dsimp only at z;have:bkAt ws a=b:=od d.2 m i (by rw[ab];exact z);rw[this,D] at k;cases k)
   unfold cG at D n;rw[m] at n
   change (!(b.mark==((seenL ws)[b.at_.toNat]?.getD false)))=true at n
   rw[D] at n;exact absurd n (by decide))
 have f:(((af ws).filter λb=>!cG (seenL ws) b).take 31).Sublist (af ws):=(kxt _ _).trans List.filter_sublist;have w:(((af ws).filter λb=>!cG (seenL ws) b).take 31).filter (λb=>(!cG (seenL ws) b) && !(((λb=>!cG (seenL ws) b) ∘ mkB x) b))=((af ws).filter λb=>!cG (seenL ws) b).take 31:=by rw[kkb];intro b i;have m:=J b i;obtain⟨G,Q,H,P,M⟩:=t _ m;have A:G=b:=od d.2 Q (f.subset i) H;subst A;dsimp only[Function.comp_apply];rw[P,M];rfl
 have z:=(f.filter (λb=>(!cG (seenL ws) b) && !(((λb=>!cG (seenL ws) b) ∘ mkB x) b))).length_le;rw[w,kq3] at z;omega
theorem Ca(h:ah ws=0)(h32:32<=(ay ws).length):(ay (ak ws ((ay ws).take 31))).length+31<=(ay ws).length:=by
 obtain⟨C,D,i3⟩:=mu h;have t:ay ws=aV (af ws) 128:=oL h;have f:=ch h;have c:((ay ws).take 31).Sublist (ay ws):=kxt _ _;have g:((ay ws).take 31).Pairwise (λa b=>a.a<b.a):=C.sublist c;have m:∀e∈ay ws,∃a:Nat,e.a=((a+1:Nat):Int)/\a%2=0/\128<=a:=by intro e d;rw[t] at d;obtain⟨b,k,-,z⟩:=fu d;obtain⟨a,rfl,q,w,-⟩:=f.1 b k;exact⟨a,by rw[z,ab];rfl,w,q⟩
 have r:Ev ws (ak ws ((ay ws).take 31)):=by refine⟨ax _ _,λi hi=>aU _ _ _ λe d n=>?_⟩;obtain⟨a,u,q,w⟩:=m e (c.subset d);omega
 obtain⟨B,E⟩:=r.heap h;have p:ay (ak ws ((ay ws).take 31))=aV ((af ws).map (nxB (ak ws ((ay ws).take 31)))) 128:=by rw[oL B,E]
 rw[p];have j:∀e∈(ay ws).take 31,wd (ak ws ((ay ws).take 31)) e.a.toNat=e.v:=λe d=>by
  have hin:=D _ (c.subset d);exact du _ ws g _ d (by omega) (by omega)
 have o:=rz (xs:=ak ws ((ay ws).take 31)) (l:=af ws) (s:=128) f.2 (λb k=>by obtain⟨a,rfl,-⟩:=f.1 b k;rw[ab];omega) (λb k hk=>by
  obtain⟨a,rfl,q,w,a3,y⟩:=f.1 b k;have hsz:=aF y;rw[ab,kqj];by_cases x:∃e∈(ay ws).take 31,e.a=((a+1:Nat):Int)
  .obtain ⟨e,d,u⟩:=x;refine .inr ⟨e,by rw[<-t];exact c.subset d,by rw[u];omega,?_⟩;have:=j e d;rw[u,kqj] at this;exact this
  exact .inl (by rw[aU _ _ _ (λe d n=>x ⟨e,d,n⟩)];rfl))
 rw[<-t] at o;have hfl:31<=((ay ws).filter (λe=>wd (ak ws ((ay ws).take 31)) e.a.toNat==e.v)).length:=by
  have A:(ay ws).take 31=((ay ws).take 31).filter (λe=>wd (ak ws ((ay ws).take 31)) e.a.toNat==e.v):=by symm;rw[kkb];intro e d;rw[kqw];exact j e d
  have n:=(c.filter (λe=>wd (ak ws ((ay ws).take 31)) e.a.toNat==e.v)).length_le;rw[<-A,kq3] at n;omega
 omega
theorem ob_few{m:Nat}(h:dA ws (m:Int)=0):3*(cD ws (m:Int)).length+5<=8*szAt ws m:=by
 have g:cu ws=0:=by
  by_cases e:cu ws=0
  .exact e
  rw[(vj rfl e).1] at h;exact absurd h e
 obtain⟨t,g2,g3⟩:=dF g;cases f:jW (aQ ws 128) (m:Int) with
 | none=>rw[(rf g f).1] at h;cases h
 | some b =>
  cases c:b.mark with
  | false=>rw[(qK g f c).1] at h;cases h
  | true =>
   cases j:dm ws (eW ws) (fj ws b) with
   | none=>rw[(uS g f c j).1] at h;cases h
   | some o =>
    rw[(ym g f c j).2];obtain⟨d,e1,p,i⟩:=uR t f;have s:d=m:=by omega
    subst s;have hlo:=nC j;have e:=qa (r8 ws b) b.at_ (r8 ws b).length;have hR:(fj ws b).length<=(flds ws d).length:=by
     have q:r8 ws b=flds ws d:=by rw[p];rfl
     unfold fj;rw[q] at e |-;exact e
    have a:=i.2.2.2.2.2.1;have k:=i.2.2.2.2.1;have hsz:=aF i.2.2.2.1;unfold dK at a;have l:(bkAt ws d).kind=1:=k;rw[l] at a;simp only[bne_self_eq_false,kk4] at a;unfold cZ at a;rw[kqt,kqw,bq] at a;obtain⟨n,r⟩:=a;have hfl:(flds ws d).length=wd ws (tyA (bkAt ws d))%256:=sO n;unfold bi at r;have h8:=te ws d;omega
def cst (E:List En):Nat:=3*E.length+2
noncomputable def pot (x:List Nat):Nat:=
 if wd x 16=1 then 4*(aK x).length+5+(2*(x.length-128)+5)+(8*(x.length-128)+64)+(7*(x.length-128)+17)
 else if wd x 16=2 then 4*(ay x).length+5+(8*(x.length-128)+64)+(7*(x.length-128)+17)
 else if wd x 16=3 then (if wd x 17=0 then 8*(x.length-128)+64 else 8*(x.length-wd x 17)+11)+(7*(x.length-128)+17)
 else if wd x 16=4 then 7*(x.length-wd x 17)+17 else 0
theorem GC(hck:az x=0)(p3:wd x 16=3)(h:(sgFix x).1=0):pot (ak x (sgFix x).2)+cst (sgFix x).2<=pot x:=by
 obtain⟨-,G,C,n⟩:=cg hck;have hb:=(aa _).1 G;obtain⟨⟨l1,E,l3⟩,-⟩:=(bo x).1 C;have a:(ak x (sgFix x).2).length=x.length:=ax _ _;have k:pot x=(if wd x 17=0 then 8*(x.length-128)+64 else 8*(x.length-wd x 17)+11)+(7*(x.length-128)+17):=by unfold pot;rw[if_neg (by omega),if_neg (by omega),if_pos p3]
 by_cases z:wd x 17=0
 .have g:dZ x=0:=by
   by_cases o:dZ x=0
   .exact o
   unfold sgFix at h;rw[if_pos z,if_neg o] at h;exact absurd h o
  have d:sgFix x=(0,⟨17,128⟩::dL x):=by unfold sgFix;rw[if_pos z,if_pos g]
  obtain⟨-,-,-,-,-,-,-,r,D,q3,-⟩:=iQ g;obtain⟨s,u,w,i,j,v⟩:=gb (f:=128) (l:=dL x) hck p3 (by decide) (by omega) (by omega) (by omega) D (λe c=>by have:=(r e c).1;omega) (λe c=>(r e c).2);rw[k,if_pos z];rw[d] at a |-;dsimp only at a |-;unfold pot cst;rw[a,i,j,if_neg (by decide),if_neg (by decide),if_pos rfl,if_neg (by decide),kq0];omega
 have d:sgFix x=ke x (wd x 17):=by unfold sgFix;rw[if_neg z]
 have F:(ke x (wd x 17)).1=0:=by rw[<-d];exact h
 rw[k,if_neg z];have hF:128<=wd x 17:=by
  rcases (co _ _ _).1 n with b|⟨-,-,b⟩|b
  .omega
  .rcases b with b|b
   .exact absurd b z
   exact ((aL _).1 b).1
  omega
 rcases lW x.length (wd x 17) (by omega) E F with b|⟨m,m1,m2,m3,m4,m5,A,q,y⟩
 .rw[d] at a |-;rw[b] at a |-;obtain⟨s,u,w,i,j,v⟩:=fE hck p3;dsimp only at a |-;have p:cst b9=11:=rfl;unfold pot;rw[a,i,j,p,if_neg (by decide),if_neg (by decide),if_neg (by decide),if_pos rfl];omega
 obtain⟨f,-,-,-,-,q5,-,-,-,B⟩:=gN q;have t:=De q;have q7:=ob_few q;obtain⟨s,u,w,i,j,v⟩:=gb (f:=m+szAt x m) (l:=cD x (m:Int)) hck p3 ((aL _).2 (by omega)) A (by omega) (by omega) B (λe c=>by have:=t e c;omega) (λe c=>by have:=t e c;omega);rw[d] at a |-;rw[y] at a |-;dsimp only at a |-;unfold pot cst;rw[a,i,j,if_neg (by decide),if_neg (by decide),if_pos rfl,if_neg (by omega),kq0];omega
theorem JD(ho:∀v∈x,v<18446744073709551616)(hck:az x=0)(p4:wd x 16=4)(h:(sgSld x).1=0):pot (ak x (sgSld x).2)+cst (sgSld x).2<=pot x:=by
 obtain⟨-,H,hl,q⟩:=cg hck;have hb:=(aa _).1 H;have g:(ak x (sgSld x).2).length=x.length:=ax _ _;have s:pot x=7*(x.length-wd x 17)+17:=by unfold pot;rw[if_neg (by omega),if_neg (by omega),if_neg (by omega),if_pos p4]
 obtain⟨E,g5,g6⟩:=tS ho hck p4 h;have b:bj x ((wd x 17:Nat):Int)=0:=by
  by_cases d:bj x ((wd x 17:Nat):Int)=0
  .exact d
  unfold sgSld at h;rw[if_neg d] at h;exact absurd h (by decide)
 obtain⟨-,a1,a2,m,A,m1,m2,m3,m4,m5,m6,m7,m8,-⟩:=fm b;have c:dG x (m:Int) ((wd x 18:Nat):Int)=0:=by
  by_cases d:dG x (m:Int) ((wd x 18:Nat):Int)=0
  .exact d
  unfold sgSld at h;rw[if_pos b,A,ab,if_neg d] at h;exact absurd h d
 have y:sgSld x=(0,⟨17,m+szAt x m⟩::⟨18,wd x 18+szAt x m⟩::ju x m (wd x 18)):=by unfold sgSld;rw[if_pos b,A,ab,if_pos c,bq,show ((m:Int)+((szAt x m:Nat):Int)).toNat=m+szAt x m by omega,show (((wd x 18:Nat):Int)+((szAt x m:Nat):Int)).toNat=wd x 18+szAt x m by omega];unfold iO;rw[if_pos c,kqj,kqj]
 obtain⟨a,u,n,z,B,G,n2,n10,hu,hua,han,hst,hlv,-,-,w⟩:=fB c;have z:a=m:=by omega
 have B:u=wd x 18:=by omega
 subst z B;subst G;have o:kA (wd x 17)=true/\kA (wd x 18)=true/\wd x 18<=wd x 17:=by
  rcases (co _ _ _).1 q with r|r|r
  .exact r.2
  .omega
  omega
 have i1:=(aL _).1 o.1;have i2:=(aL _).1 o.2.1;obtain⟨k1,k2,k3,k4,I,k6⟩:=k9 (f:=a+szAt x a) (t:=wd x 18+szAt x a) (l:=ju x a (wd x 18)) hck p4 ((aL _).2 (by omega)) ((aL _).2 (by omega)) (by omega) (by omega) (by omega) (by omega) (by rw[fD];omega) (by
  rw[kzd];intro i j hi hj hij;rw[fa,fa];omega) (λe F=>by
  obtain⟨k,C,rfl⟩:=kqz F;rw[fa];rw[fD] at C;omega) (qy ho w)
 have D:wd (ak x (sgSld x).2) 17=a+szAt x a:=by rw[y];exact I
 have p:cst (sgSld x).2=3*szAt x a+8:=by rw[y];unfold cst;rw[kq0,kq0,fD];omega
 rw[s,p];unfold pot;rw[g,E,D,if_neg (by decide),if_neg (by decide),if_neg (by decide),if_pos rfl];omega
theorem FN(ho:∀v∈x,v<18446744073709551616)(h:(cJ x).1=0)(o:(cJ x).2.1=false):pot (ak x (cJ x).2.2)+cst (cJ x).2.2<=pot x:=by
 by_cases q:(ae x).1=6
 .by_cases g:wd x 16=0
  .unfold cJ at o;rw[if_pos q,if_pos g] at o;cases o
  have e:cJ x=(el x,false,dl x):=by unfold cJ;rw[if_pos q,if_neg g]
  rw[e] at h |-;dsimp only at h |-;obtain⟨z,t⟩:=ql h;have F:wd x 16=4:=(gO h).2.2.2.1;have hc:(dl x).length<=5:=by unfold dl;rw[if_pos h];have k:phE 0 0 0=[⟨16,0⟩,⟨17,0⟩,⟨18,0⟩]:=rfl;rw[k,kqu];split<;>simp
  unfold pot cst;rw[t,if_neg (by decide),if_neg (by decide),if_neg (by decide),if_neg (by decide),F,if_neg (by decide),if_neg (by decide),if_neg (by decide),if_pos rfl];omega
 have e:cJ x=((ae x).1,false,(ae x).2):=by unfold cJ;rw[if_neg q]
 rw[e] at h |-;dsimp only at h |-;obtain⟨c,-,-,-,-,k6,-,-⟩:=lC ho h;obtain⟨-,G,B,k⟩:=cg c;have hb:=(aa _).1 G;obtain⟨⟨l1,l2,l3⟩,-⟩:=(bo x).1 B;have b:(ak x (ae x).2).length=x.length:=ax _ _;have d:=qT (ak x (ae x).2) (by omega);rw[b] at d;by_cases j:wd x 16=1
 .have f:aC x=0:=by
   by_cases g:aC x=0
   .exact g
   unfold ae at h;rw[if_pos c,if_pos j,if_neg g] at h;exact absurd h g
  have e:ae x=(0,ie (aK x) 2):=by unfold ae;rw[if_pos c,if_pos j,if_pos f]
  obtain⟨r,A⟩:=nU f;obtain⟨z,t,E,n,s,D⟩:=eE c j (.inl rfl) (dg f) (λy I=>by
   obtain⟨i,C⟩:=kjr.1 I;exact r i y C) (nP f)
  simp only[Nat.reduceAdd] at n;rw[e] at d b |-;dsimp only at d b |-;unfold pot cst;rw[b,if_pos j,n];by_cases a:32<=(aK x).length
  .have o:=wT f a;rw[if_pos a,if_pos rfl,cm a,kq3];omega
  rw[if_neg a,if_neg (by decide),if_pos rfl,fC a,kq0];rw[fC a] at d;omega
 by_cases m:wd x 16=2
 .have l:ah x=0:=by
   by_cases g:ah x=0
   .exact g
   unfold ae at h;rw[if_pos c,if_neg j,if_pos m,if_neg g] at h;exact absurd h g
  have e:ae x=(0,ie (ay x) 3):=by unfold ae;rw[if_pos c,if_neg j,if_pos m,if_pos l]
  obtain⟨r,A,H⟩:=mu l;obtain⟨z,t,E,n,s,D⟩:=eE c m (.inr rfl) r A H;simp only[Nat.reduceAdd] at n s;rw[e] at d b |-;dsimp only at d b |-;unfold pot cst;rw[b,if_neg j,if_pos m,n,s];by_cases a:32<=(ay x).length
  .have o:=Ca l a;rw[if_pos a,if_neg (by decide),if_pos rfl,cm a,kq3];omega
  rw[if_neg a,if_neg (by decide),if_neg (by decide),if_pos rfl,if_pos rfl,fC a,kq0];omega
 by_cases p:wd x 16=3
 .have e:ae x=sgFix x:=by unfold ae;rw[if_pos c,if_neg j,if_neg m,if_pos p]
  rw[e] at h |-;exact GC c p h
 have w:wd x 16=4:=by rcases (co _ _ _).1 k with u|⟨-,-,u⟩|u<;>omega
 have e:ae x=sgSld x:=by unfold ae;rw[if_pos c,if_neg j,if_neg m,if_neg p,if_pos w]
 rw[e] at h |-;exact JD ho c w h
theorem pot_le(hck:az x=0):pot x<=19*(x.length-128)+91:=by
 obtain⟨-,h,hl,c⟩:=cg hck;have hb:=(aa _).1 h;have a:=Bj x (by omega);have h2:=qT x (by omega);have b:=(co _ _ _).1 c;unfold pot;by_cases g:wd x 16=1
 .rw[if_pos g];omega
 rw[if_neg g];by_cases e:wd x 16=2
 .rw[if_pos e];omega
 rw[if_neg e];by_cases f:wd x 16=3
 .rw[if_pos f];have i:wd x 17=0\/128<=wd x 17:=by
   rcases b with a|⟨-,-,a⟩|a
   .omega
   .rcases a with a|a
    .exact .inl a
    exact .inr ((aL _).1 a).1
   omega
  split<;>omega
 rw[if_neg f];by_cases d:wd x 16=4
 .have i:128<=wd x 17:=by
   rcases b with a|a|a
   .exact ((aL _).1 a.2.1).1
   .omega
   omega
  rw[if_pos d];omega
 rw[if_neg d];omega
theorem C3{ad:List Int}(h1:ad.Pairwise (· < ·))(h2:∀a∈ad,0<=a/\a<2048):∀k,k<=ad.length->gY ad k=true:=by
 have b:∀k,k<ad.length->∀i,i<=k->bT ad (ad[k]?.getD 0) i=false:=by
  intro k c i
  induction i with
  | zero=>intro _;rfl
  | succ i ih =>intro hi;have hp:=kzd.1 h1 i k (by omega) c (by omega);simp only[bT,ih (by omega),kk4,kqi];rw[kql (by omega),kql c,kq8,kq8];omega
 intro k
 induction k with
 | zero=>intro _;rfl
 | succ k ih =>
  intro c;have d:=h2 _ (kqq (show k<ad.length by omega));refine lY (ih (by omega)) ?_ ?_ (b k (by omega) k (kqa _))
  .rw[kql (by omega),kq8];exact d.1
  rw[kql (by omega),kq8];exact d.2
theorem rv{n:Nat}{E:List En}(h:Small n E)(hn:n<=2048):gm (au E)=0/\ofS (au E)<=(cst E:Nat)/\ofF (au E)<=(cst E:Nat)/\ofN (au E)<=(cst E:Nat):=by
 have b:=aT E;have c:gm (au E)=0:=by
  refine uX (by rw[b];exact h.le) (C3 ?_ (λa d=>?_) _ (kqa _))
  .unfold au;rw[kkn];exact h.inc
  obtain⟨e,f,rfl⟩:=kzr.1 d;have:=h.ins e f;omega
 have hp:=h.pos;have hnl:=kE (au E) E.length;refine⟨c,?_,?_,?_⟩
 .unfold ofS ge cst;rw[if_pos c,b];split<;>omega
 .unfold ofF fc cst;rw[if_pos c,b];split<;>omega
 unfold ofN gw cst;rw[if_pos c,b];split<;>omega
theorem rs_pot:∀ {a:List (List En)} {x y:List Nat},(∀v∈x,v<18446744073709551616)->x.length<=2048->rsE x=(0,a,y) ->
 dp (a.map au)=0/\tot ofS (a.map au)<=(pot x:Nat)/\tot ofF (a.map au)<=(pot x:Nat)/\tot ofN (a.map au)<=(pot x:Nat):=by
 intro a
 induction a with
 | nil=>intro x y _ _ _;refine⟨rfl,?_,?_,?_⟩<;>(simp only[List.map_nil,tot];omega)
 | cons E a ih =>intro x y d e h;obtain⟨c,i⟩:=pQ d h;have b:=si d (by rw[c]) (by rw[c]);have f:=FN d (by rw[c]) (by rw[c]);rw[c] at b f;dsimp only at b f;obtain⟨g,i2,i3,i4⟩:=ih b.2.1 (by rw[ax];exact e) i;obtain⟨j,s2,s3,s4⟩:=rv b.1 e;simp only[kxj,dp,tot];refine⟨by rw[if_pos j];exact g,?_,?_,?_⟩<;>omega
theorem zV{y:List Nat}{outs:List (List En)}(ho:∀v∈ws,v<18446744073709551616)(h:gU ws=(0,outs,y)):
 aj (ws.length:Int)=true/\dp (outs.map au)=0/\tot ofS (outs.map au)<=20*((ws.length:Int)-128)+200/\tot ofF (outs.map au)<=20*((ws.length:Int)-128)+200/\tot ofN (outs.map au)<=20*((ws.length:Int)-128)+200:=by obtain⟨a,d,-⟩:=jS ho h;obtain⟨-,b,-⟩:=cg a;have hb:=(aa _).1 b;obtain⟨c,i2,i3,i4⟩:=rs_pot ho (by omega) d;have hp:=pot_le a;exact⟨b,c,by omega,by omega,by omega⟩
end Go.Proofs.YtpcajamacpbjcaaGreat
