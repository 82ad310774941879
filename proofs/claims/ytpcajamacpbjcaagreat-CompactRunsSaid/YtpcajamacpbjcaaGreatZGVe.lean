import Derived.Test.YtpcajamacpbjcaaGreatZGVd
set_option maxHeartbeats 16000000
set_option maxRecDepth 100000
set_option linter.all false
namespace Go.Proofs.YtpcajamacpbjcaaGreat
open Go.RowKit
variable {p:Bool}{d:Dv}{x:Dw}{a:Int}{l:List Bk}{G:List Nat}{k v:Nat}{w:World}
open Go.Proofs.Tryz
theorem IH :∀ {l:List Dw},(∀e∈l,e.a<a)->stQ l a v=l++[⟨a,v,false⟩]:=by
 intro l
 induction l with
 | nil=>intro _;rfl
 | cons e l c =>intro h;unfold stQ;rw[if_pos (h e (by simp)),c λx b=>h x (by simp[b])];rfl
theorem Hh :∀ {l:List Dw},(∃e∈l,a<=e.a)->stQ (l++[x]) a v=stQ l a v++[x]:=by
 intro l
 induction l with
 | nil=>rintro ⟨e,b,-⟩;cases b
 | cons e l f =>
  intro h;rw[kzq];unfold stQ;by_cases b:e.a<a
  .rw[if_pos b,if_pos b,kzq,f];obtain⟨y,c,d⟩:=h;rcases kq0.1 c with rfl|c
   .omega
   exact⟨y,c,d⟩
  rw[if_neg b,if_neg b];split
  .rfl
  rfl
theorem Dm :∀ {l:List Dw},(∀e∈l,e.a<a)->a<=x.a->stQ (l++[x]) a v=l++[⟨a,v,false⟩]++(if x.a=a then [] else [x]):=by
 intro l
 induction l with
 | nil =>intro _ b;show stQ [x] a v=_;unfold stQ;rw[if_neg (by omega)];split<;>simp
 | cons e l d =>intro h b;rw[kzq];unfold stQ;rw[if_pos (h e (by simp)),d (λy c=>h y (by simp[c])) b];rfl
def StK (l:List Dw) (a:Int) (v:Nat) (k:Nat) (p:Bool) (o:List Dw):Prop:=
 (p=true->(∃e∈l.take k,a<=e.a)/\o=stQ (l.take k) a v)/\(p=false->(∀e∈l.take k,e.a<a)/\o=l.take k)
theorem Id{n:Nat}:∀ {l:List Dw} {b:Int},fP n l b=true->l.Pairwise λx y=>x.a<y.a:=by
 intro l
 induction l with
 | nil=>intro b _;exact List.Pairwise.nil
 | cons e l d =>intro b h;simp only[fP,kqs,kze] at h;exact kj9.2 ⟨λy c=>(fc h.2.2 y c).1,d h.2.2⟩
theorem StK.start(l:List Dw)(a:Int)(v:Nat):StK l a v 0 false []:=⟨λh=>(by cases h),λ_=>⟨λe b=>(by cases b),rfl⟩⟩
section
variable {n:Nat} {l:List Dw} {a b:Int} {v k:Nat} {o:List Dw}
theorem StK.before(h:StK l a v k false o)(c:k<l.length)(g:l[k].a<a):StK l a v (k+1) false (o++[l[k]]):=by
 obtain⟨d,f⟩:=h.2 rfl;refine⟨λh=>(by cases h),λ_=>⟨λe b=>?_,by rw[f,kqi c]⟩⟩;rw[kqi c,kz1] at b;rcases b with b|b
 .exact d e b
 rw[kq2] at b;subst b;exact g
theorem StK.hit(h:StK l a v k false o)(b:k<l.length)(e:l[k].a=a):StK l a v (k+1) true (o++[⟨a,v,false⟩]):=by obtain⟨c,d⟩:=h.2 rfl;refine⟨λ_=>⟨⟨l[k],(by rw[kqi b];exact List.mem_append_right _ (List.mem_singleton_self _)),by omega⟩,?_⟩,λh=>by cases h⟩;rw[d,kqi b,Dm c (by omega),if_pos e];simp
theorem StK.over(h:StK l a v k false o)(b:k<l.length)(hx:a<l[k].a):StK l a v (k+1) true (o++[⟨a,v,false⟩]++[l[k]]):=by obtain⟨c,d⟩:=h.2 rfl;refine⟨λ_=>⟨⟨l[k],(by rw[kqi b];exact List.mem_append_right _ (List.mem_singleton_self _)),by omega⟩,?_⟩,λh=>by cases h⟩;rw[d,kqi b,Dm c (by omega),if_neg (by omega)]
theorem StK.behind(h:StK l a v k true o)(d:k<l.length):StK l a v (k+1) true (o++[l[k]]):=by obtain⟨⟨e,c,b⟩,f⟩:=h.1 rfl;refine⟨λ_=>⟨⟨e,by rw[kqi d,kz1];exact .inl c,b⟩,?_⟩,λh=>by cases h⟩;rw[f,kqi d,Hh ⟨e,c,b⟩]
theorem StK.gt(h:StK l a v k true o)(i:fP n l b=true)(g:k<l.length):a<l[k].a:=by obtain⟨⟨e,d,c⟩,-⟩:=h.1 rfl;obtain⟨j,f,rfl⟩:=kqy d;rw[kq6] at f;rw[kjx] at c;have:=kzg.1 (Id i) j k (by omega) g (by omega);omega
theorem StK.ways(h:StK l a v k p o)(e:fP n l b=true)(d:k<l.length):p=false/\l[k].a=a/\StK l a v (k+1) true (o++[⟨a,v,false⟩])\/(p=true/\a<l[k].a/\StK l a v (k+1) true (o++[l[k]])\/p=false/\l[k].a<a/\StK l a v (k+1) false (o++[l[k]])\/p=false/\a<l[k].a/\StK l a v (k+1) true (o++[⟨a,v,false⟩]++[l[k]])):=by
 cases p with
 | true=>exact .inr (.inl ⟨rfl,h.gt e d,h.behind d⟩)
 | false =>
  rcases Int.lt_trichotomy l[k].a a with c|c|c
  .exact .inr (.inr (.inl ⟨rfl,c,h.before d c⟩))
  .exact .inl ⟨rfl,c,h.hit d c⟩
  exact .inr (.inr (.inr ⟨rfl,c,h.over d c⟩))
theorem StK.done(h:StK l a v l.length p o):(if p=true then o else o++[⟨a,v,false⟩])=stQ l a v:=by
 cases p with
 | true=>rw[if_pos rfl];have:=(h.1 rfl).2;rwa [kzb] at this
 | false =>obtain⟨b,c⟩:=h.2 rfl;rw[kzb] at b c;rw[if_neg (by simp),c,IH b]
end
def gV (w:World) (v:Value) (d:Dv):Prop:=∃A c DA dc,v=.agg #[.slice A d.im.length c,.slice DA d.dw.length dc,.int .i64 d.left,.bool d.down]/\d.im.length<=c/\RdW w w.heap.size A d.im/\RdQ w w.heap.size DA d.dw
theorem iE.in_{H:Nat}{v:Value}(h:iE w H d v):gV w v d:=by obtain⟨A,c,a,b,rfl,g,e,f⟩:=h;exact⟨A,c,a,b,rfl,g,Rd.of_own e,Rd.of_own f⟩
theorem gV.up{w':World}{v:Value}(h:gV w v d)(a:Below w.heap.size w w'):gV w' v d:=by obtain⟨A,c,b,e,rfl,i,f,g⟩:=h;exact⟨A,c,b,e,rfl,i,f.up a a.size,g.up a a.size⟩
def jo (w:World) (d:Dv) (e:Ending) (w':World):Prop:=(∃u,e=.returned u/\iE w' w.heap.size d u)/\Below w.heap.size w w'
theorem se(A:Option Addr)(l:List Nat)(c n:Nat)(w:World)(d:l.length=n)(hm:n<=1000000)(a:RdW w w.heap.size A l):
 Calls prog 80 #[.slice A n c] w λe b=>(∃A2 c2,e=.returned (.slice A2 n c2)/\b.ownsRow w.heap.size 53 1 (.slice A2 n c2) n (l.flatMap ap))/\Below w.heap.size w b:=by subst d;have k:=y5 a;clear a;obtain⟨m,e,a,b,d⟩:=kzh mZ;obtain⟨j,g,h,i⟩:=yq2 e a b d;clear e a b d;go_enter func80,ntmps80;go_wp2_with (at_builtin;refine aW _ (by rfl) _ _ 22 rfl w.heap.size 53 m _ 1 8 underlying22 j.out g.out h.out i.out rfl (by decide) (.slice (some ⟨w.heap.size,0,none⟩) 0 0) 0 [] (by rfl) (gc w _ _ _ (kqa _)) w.heap.size (A) (l.length) _ (l.flatMap ap) (by rfl) (by rw[oo];omega) (Rd.alloc (k.out) (kqa _) _) (db vn _) (by unfold maxLen;omega) (by omega) (by simp) ?_;intro v1 wa a e;have d:=bi ((kqe w.heap.size w).alloc (kqa _) _) (by simp) (gc w w.heap.size 53 1 (kqa _)) e;simp only[kxg,kz5] at a;obtain⟨ga,ca,rfl⟩:=aw a;have b:=y5 a;have f:=y5 d;clear a d e);go_ret;exact⟨⟨_,_,rfl,b.out⟩,f.out⟩
theorem rB(v:Value)(d:Dv)(w:World)(h:gV w v d)(t:d.im.length<=1000000)(C:d.dw.length<=1000000):
 Calls prog 36 #[v] w λe a=>jo w d e a:=by
 obtain⟨A,c,I,dc,rfl,k,f,s⟩:=h;obtain⟨G,T,H,F⟩:=d;dsimp only at k f s t C |-;obtain⟨X,HR,HQ⟩:=yq1 (λW (h:RdW W W.heap.size A G)=>se A G c G.length W rfl t h) f s;obtain⟨n,o⟩:=xq G.length;obtain⟨m,l⟩:=xq T.length;rw[o] at X t k |-;rw[l] at C |-;obtain⟨Q,j,b,g,h,a⟩:=gP w A I H F n c m dc;obtain⟨X0,X1,y⟩:=yq1 b g h;obtain⟨q0,q1,q2,q3,-,-,-,-,V⟩:=b.c4;have x:w.heap.size<=Q.heap.size:=(by omega);have E:w.heap.size+1<Q.heap.size:=(by omega);have D:w.heap.size+1≠w.heap.size:=(by omega);obtain⟨r,q,M⟩:=yq1 o l (bU Dw.cells 3 Dw.len T);obtain⟨i0,f,a,u,i⟩:=kzh pd;obtain⟨HI,N,O,P⟩:=yq2 f a u i;clear f a u i;clear f s b g h a o l k;go_enter func36,ntmps36;go_wp2_with fail;clear j;refine (X.out Q (HR.out.up y.out x)).mono ?_;rintro e W ⟨⟨i,j,rfl,a⟩,f⟩;have z:=y5 a;have b:=X0.out.up f V;have g:=X1.out.up f E;have J:=y5 (y.out.trans (f.mono x));have u:=f.size;obtain⟨q0,q1,q2,q3,f0,f1,-,-,s⟩:=b.c4;obtain⟨R,S⟩:=yq0 b g;clear a f b g;have l:=J.out.setCell (p:=⟨w.heap.size,0,none⟩) (kqa _) (.slice i n j);have b:=R.out.set_ 0 (.slice i n j);have g:=S.out.far (p:=⟨w.heap.size,0,none⟩) D (.slice i n j);have K:=ar z.out (bI z.out V).symm (p:=⟨w.heap.size,0,none⟩) (.slice i n j);have k:(W.setCell ⟨w.heap.size,0,none⟩ (.slice i n j)).heap.size=W.heap.size:=kxc _ _ _;obtain⟨f,U⟩:∃f,W.setCell ⟨w.heap.size,0,none⟩ (.slice i n j)=f:=⟨_,rfl⟩;rw[U] at l b g K k;obtain⟨Y0,Y1,O2,h⟩:=yq2 b g K l;have B:w.heap.size<f.heap.size:=(by omega);have o:w.heap.size+1<f.heap.size:=(by omega);obtain⟨s0,s1,s2,s3,-⟩:=(Y0.out.alloc (.cells #[] 92)).c4;clear b g K l k;go_wp2_with (first
  | (at_builtin;refine aW _ (by rfl) _ _ 77 rfl f.heap.size 92 i0 _ 3 24 underlying77 HI.out N.out O.out P.out rfl (by decide) (.slice (some ⟨f.heap.size,0,none⟩) 0 0) 0 [] (by rfl) (gc f _ _ _ (kqa _)) f.heap.size I m _ (T.flatMap Dw.cells) (by rfl) (by rw[M.out,q.out]) (Rd.alloc (yq8 HQ h) (kqa _) _) (db Dw.one _) (by unfold maxLen;omega) (by omega) (by simp) ?_;intro v1 wa a s;have e:=bi ((kqe f.heap.size f).alloc (kqa _) _) (by simp) (gc f f.heap.size 92 3 (kqa _)) s;simp only[kxg,kz5] at a;obtain⟨k,l,rfl⟩:=aw a;have Y:=y5 (ag O2.out e (kqa _));have Q3:=y5 a;have b:=Y0.out.up e B;have g:=Y1.out.up e o;have K:=yq7 h e;have hz3:=e.size;obtain⟨q0,q1,q2,q3,f0,f1,-,-,hg3⟩:=(show Bx wa w.heap.size 79 #[.slice i n j,.slice I m dc,.int .i64 H,.bool F] from b).c4;have Z0:=y5 (show Bx (wa.setCell ⟨w.heap.size,1,none⟩ (.slice k m l)) w.heap.size 79 #[.slice i n j,.slice k m l,.int .i64 H,.bool F] from b.set_ 1 (.slice k m l));have Z1:=y5 (g.far (p:=⟨w.heap.size,1,none⟩) D (.slice k m l));have L:=y5 (K.out.setCell (p:=⟨w.heap.size,1,none⟩) (kqa _) (.slice k m l));have Z:=y5 (ar Y.out (bI Y.out V).symm (p:=⟨w.heap.size,1,none⟩) (.slice k m l));have Q4:=y5 (ar Q3.out (bI Q3.out B).symm (p:=⟨w.heap.size,1,none⟩) (.slice k m l));clear a e s b g)
  | ((with_reducible refine av 79 (.tmp 1) ?_);refine ldD Z0.out ?_)
  | ((with_reducible refine aj 79 (.tmp 2) _ ?_);refine stD Z1.out ?_;intro w9 K e))
 refine kqq (v:=.agg #[.slice i n j,.slice k m l,.int .i64 H,.bool F]) (cV results36 _ K.out rfl rfl) rfl ⟨⟨_,rfl,i,j,k,l,by rw[r.out,q.out],?_,?_,?_⟩,e.out.below L.out (by omega)⟩
 .dsimp only;rw[r.out];exact d6 Z.out
 .dsimp only;rw[r.out];exact ab (ak Z.out e.out E) x
 dsimp only;rw[q.out];exact ab (ak Q4.out e.out o) h.out.size
theorem rs_obj(d:ao G=0){m:Nat}(g:fG G m):cm G (m:Int)=da G (bkAt G m):=by
 obtain⟨k,j,e,-⟩:=g.2.2.2.2.2.2;have b:bkAt G m∈aa G:=by rw[<-e];exact kqp j
 have f:aS G 128=aa G:=(gw d).2.1;obtain⟨b2,c⟩:=nE (l:=aa G) (a:=(m:Int)) b (af G m) g.2.2.2.2.1;obtain⟨h,i,f3⟩:=jY c;obtain rfl:=pX (cH d).2 h b (by rw[i,af]);unfold cm;rw[if_pos d,f,c]
def xK (G:List Nat):List Bk->Int × List En
 | []=>(0,cc)
 | b::L=>if da G b=[] then xK G L else if cM G b.at_=0 then (0,⟨17,(b.at_+b.size).toNat⟩::cB G b.at_) else (cM G b.at_,[])
theorem ut(hk:k<=l.length)(h:fv l k):(l.take k).filter aE=[]:=by rw[kj1];intro b c;obtain⟨j,d,rfl⟩:=kqy c;rw[kq6] at d;have a:=h j (by omega);rw[bG l j (by omega)] at a;rw[kjx];unfold aE;rw[a,kx6];decide
theorem IR(t:ao G=0):∀d a l,G.length-a<=d->blocks G a=some l->a%2=0->128<=a->a<=G.length->(∀b∈l,b∈aa G)->jp G a=xK G (l.filter aE):=by
 have L:=(ax t).1;intro d
 induction d with
 | zero =>
  intro a l H e F E J _;have c:G.length<=a:=(by omega);rw[aH c] at e;injection e with e;subst e;have f:bu G (a:Int)≠0:=λh=>by
   obtain⟨-,-,-,m,-,O,-,P,-,y,-⟩:=fA h;omega
  rw[iX f];rfl
 | succ d M =>
  intro a l H e F E J i;by_cases f:bu G (a:Int)=0
  .obtain ⟨-,-,-,m,s,O,m2,P,m4,y,m6,Q,z,N,v,-,-,k,r,c,B⟩:=fA f;obtain rfl:l=N:=by rw[e] at v;injection v
   have p:=cj B (by omega);obtain⟨D,o,g3,x⟩:=p;have h:l.drop k=bkAt G m::l.drop (k+1):=by rw[bG _ _ D] at o;rw[kz8 r];rw[kjw] at o;simp only[kxb] at o;rw[o]
   rw[kxr] at x;have I:aE (bkAt G m)=true:=by unfold aE;rw[Q,z];rfl
   have j:bkAt G m∈l:=kxt (by rw[h];exact List.mem_cons_self ..);obtain⟨q,K,w⟩:=kqy (i _ j);obtain⟨A,C,u⟩:=ma t K (by rw[w];exact z);obtain rfl:m=A:=by have:=congrArg Bk.at_ (w.symm.trans C);rw[af,af] at this;omega
   have g:=rs_obj t u;rw[<-kz6 k l,kxa,ut (kjn r) c,kz5,h,kxf,if_pos I];simp only[xK];by_cases n:da G (bkAt G m)=[]
   .rw[if_pos n,jA f s (by rw[g];exact n)];exact M _ _ (by omega) x (by omega) (by omega) y (λb e=>i b (kxt e))
   rw[if_neg n];by_cases b:cM G (m:Int)=0
   .rw[af,if_pos b,aU,show (((m:Int)+((szAt G m:Nat):Int)).toNat)=m+szAt G m by omega];exact nD f s (by rw[g];exact n) b
   rw[af,if_neg b];exact qP f s (by rw[g];exact n) b
  rw[iX f];have b:eU G.length (a:Int)=false:=by simp only[eU,kzo,kqb,kqt];omega
  have p:=cC L b (l:=l) (by rw[kqf];exact e);rcases lK l with⟨k,r,c,g⟩|c
  .exact absurd (qn p.1 p.2 r c g).2 f
  have:=ut (kqa _) c;rw[kzb] at this;rw[this];rfl
theorem EC(g:ao G=0)(c:∀b∈l,b∈aa G){b:Bk}(a:b∈l.filter aE):∃m:Nat,b=bkAt G m/\fG G m:=by
 rw[kzy] at a;obtain⟨q,i,d⟩:=kqy (c _ a.1);have h:b.kind=1:=by have:=a.2;unfold aE at this;simp only[kqs,kqw] at this;exact this.1
 obtain⟨m,e,f⟩:=ma g i (by rw[d];exact h);exact⟨m,by rw[<-d,e],f⟩
theorem DJ(h:(ah G).1=0):aB G=0/\(
 (wd G 16=1/\aK G=0/\(ah G).2=iA (aO G) 2) \/
 (wd G 16=2/\ao G=0/\(ah G).2=iA (aI G) 3) \/
 (wd G 16=3/\wd G 17=0/\dh G=0/\(ah G).2=⟨17,128⟩::dg G) \/
 (wd G 16=3/\wd G 17≠0/\(jp G (wd G 17)).1=0/\(ah G).2=(jp G (wd G 17)).2) \/
 (wd G 16=4/\∃(m:Nat) (l L:List Bk),blocks G (wd G 17)=some l/\l.filter aE=bkAt G m::L/\stands G m=true/\(aq (wd G m)).kind=1/\128<=wd G 17/\wd G 17%2=0/\wd G 17<=G.length/\wd G 18<=m/\(ah G).2=⟨17,m+szAt G m⟩::⟨18,wd G 18+szAt G m⟩::jj G m (wd G 18))):=by
 have d:aB G=0:=by
  by_cases a:aB G=0
  .exact a
  unfold ah at h;rw[if_neg a] at h;exact absurd h a
 refine⟨d,?_⟩;have a:ah G=(if wd G 16=1 then (if aK G=0 then (0,iA (aO G) 2) else (aK G,[]))
  else if wd G 16=2 then (if ao G=0 then (0,iA (aI G) 3) else (ao G,[]))
  else if wd G 16=3 then sgFix G
  else if wd G 16=4 then sgSld G else (6,[])):=by unfold ah;rw[if_pos d]
 rw[a] at h |-;clear a;by_cases j:wd G 16=1
 .rw[if_pos j] at h |-;by_cases a:aK G=0
  .rw[if_pos a];exact .inl ⟨j,a,rfl⟩
  rw[if_neg a] at h;exact absurd h a
 rw[if_neg j] at h |-;by_cases o:wd G 16=2
 .rw[if_pos o] at h |-;by_cases a:ao G=0
  .rw[if_pos a];exact .inr (.inl ⟨o,a,rfl⟩)
  rw[if_neg a] at h;exact absurd h a
 rw[if_neg o] at h |-;by_cases f:wd G 16=3
 .rw[if_pos f] at h |-;unfold sgFix at h |-;by_cases b:wd G 17=0
  .rw[if_pos b] at h |-;by_cases a:dh G=0
   .rw[if_pos a];exact .inr (.inr (.inl ⟨f,b,a,rfl⟩))
   rw[if_neg a] at h;exact absurd h a
  rw[if_neg b] at h |-;exact .inr (.inr (.inr (.inl ⟨f,b,h,rfl⟩)))
 rw[if_neg f] at h |-;by_cases p:wd G 16=4
 .rw[if_pos p] at h |-;unfold sgSld at h |-;by_cases c:bu G ((wd G 17:Nat):Int)=0
  .rw[if_pos c] at h |-;obtain⟨-,s,t,m,x,m1,m2,m3,m4,m5,A,B,r,l,v,-,-,k,q,i,w⟩:=fA c;rw[x,af] at h |-;by_cases b:ei G (m:Int) ((wd G 18:Nat):Int)=0
   .rw[if_pos b];obtain⟨a,u,n,ea,eu,en,n2,n10,hu,hua,han,-⟩:=fO b;obtain⟨y,e,g3,g4⟩:=cj w (by omega);have g:l.drop k=bkAt G m::l.drop (k+1):=by rw[bG _ _ y] at e;rw[kz8 q];rw[kjw] at e;simp only[kxb] at e;rw[e]
    have z:aE (bkAt G m)=true:=by unfold aE;rw[B,r];rfl
    refine .inr (.inr (.inr (.inr ⟨p,m,l,(l.drop (k+1)).filter aE,v,?_,A,r,s,t,by omega,by omega,?_⟩)))
    .refine (congrArg (List.filter aE) (kz6 k l)).symm.trans ?_;rw[kxa,ut (kjn q) i,kz5,g,kxf,if_pos z]
    unfold i9;rw[if_pos b,aU,kqf,kqf,show ((m:Int)+((szAt G m:Nat):Int)).toNat=m+szAt G m by omega,show (((wd G 18:Nat):Int)+((szAt G m:Nat):Int)).toNat=wd G 18+szAt G m by omega]
   rw[if_neg b] at h;exact absurd h b
  rw[if_neg c] at h;cases h
 rw[if_neg p] at h;cases h
theorem nx_six(h:(dy G).1=0)(c:(ah G).1=6):aB G=0/\(wd G 16=0/\dy G=(0,true,[])\/wd G 16=4/\dJ G=0/\dy G=(0,false,du G)):=by
 refine⟨CT c,?_⟩;unfold dy at h |-;rw[if_pos c] at h |-;by_cases a:wd G 16=0
 .rw[if_pos a];exact .inl ⟨a,rfl⟩
 rw[if_neg a] at h |-;have b:dJ G=0:=h;refine .inr ⟨(kb b).2.1,b,by rw[b]⟩
theorem nx_one(h:(dy G).1=0)(a:(ah G).1≠6):(ah G).1=0/\dy G=(0,false,(ah G).2):=by unfold dy at h |-;rw[if_neg a] at h |-;have:(ah G).1=0:=h;exact⟨this,by rw[this]⟩
theorem EG{L:List Bk}(a:k<L.length):xK G (L.drop k)=if da G L[k]=[] then xK G (L.drop (k+1)) else if cM G L[k].at_=0 then (0,⟨17,(L[k].at_+L[k].size).toNat⟩::cB G L[k].at_) else (cM G L[k].at_,[]):=by rw[kz8 a];rfl
theorem I0(A:Option Addr)(G:List Nat)(c n f:Nat)(q t:Int)(w:World)(z:G.length=n)(r:ao G=0)(y:f≠0)(v:mU G f=true)(i:f%2=0)(La:f<=n)(h:(jp G f).1=0)(o:RdW w w.heap.size A G)(B:∀x∈G,x<2^64):
 Calls prog 193 #[.slice A n c,.agg #[.int .i64 q,.int .i64 (f:Int),.int .i64 t]] w λe a=>ey w.heap.size 0 (jp G f).2 e a/\Below w.heap.size w a:=by
 have H:=(ax r).1;have hb:=dA G H;rw[z] at hb;obtain⟨d,k0,Ke,g⟩:=GS r v;have l:∀b∈(aa G).drop k0,b∈aa G:=λb hb=>kxt hb;have j:=IR r _ f _ (kqa _) g i d (by omega) l;have Kb:(((aa G).drop k0).filter aE).length<=1024:=by refine kzu (kxz _ _) ?_;rw[kz2];have:=dI G;omega
 have F:=y5 (λW (h:RdW W W.heap.size A G)=>mB A G c n f _ W z H i d La g h B);unfold wW at F;have Ka:=y5 (λb (hb:b∈((aa G).drop k0).filter aE)=>EC r l hb);generalize ((aa G).drop k0).filter aE=L at j Kb F Ka;obtain⟨Ks,Eq⟩:=yq0 (λa W (h:fG G a) (o:RdW W W.heap.size A G)=>tw (G:=G) (a:=a) A c n W z (by omega) (by omega) r h o B) (λ(a:Nat) W (h:cM G (a:Int)=0) (o:RdW W W.heap.size A G)=>tC A G c n (a:Int) W z h o B);unfold ey at Eq;have Ko:Hid (∀a:Nat,cM G (a:Int)=0->(cB G (a:Int)).length<=8):=y5 λa h=>by
  obtain⟨f,-,-,-,-,q5,-⟩:=ij h;exact q5
 have Kv:Hid (∀a,fG G a->a+szAt G a<=n):=y5 λa h=>by
  have:=aC h.2.2.2.1;omega
 obtain⟨Kg,Km,HZ,HR⟩:=yq2 (λk (hk:k<L.length)=>EG (G:=G) hk) j h o;obtain⟨m,E⟩:=xq L.length;rw[E] at F Kb;have HM:=y5 E;have I:=Bx.new w 107 #[.int .i64 q,.int .i64 (f:Int),.int .i64 t];obtain⟨u,XB⟩:=yq0 ((kqe w.heap.size w).alloc (kqa _) (.cells #[.int .i64 q,.int .i64 (f:Int),.int .i64 t] 107)) I;have J:((f:Int)==0)=false:=(by rw[kqc];omega);have C:(f==0)=false:=by rw[kqc];exact y
 obtain⟨wP,s⟩:∃wP,w.alloc (.cells #[.int .i64 q,.int .i64 (f:Int),.int .i64 t] 107)=wP:=⟨_,rfl⟩;have D:=s;rw[s] at u XB;have Kt:=y5 (o.up u.out u.out.size);obtain⟨K,M,N,-⟩:=XB.out.c3;unfold ey;clear o B h r z g v i d Ke H E j D I l y;obtain⟨i0,i,d,g,B⟩:=kzh bE;obtain⟨HI,Kw,Kx,Ky⟩:=yq2 i d g B;clear i d g B;go_enter func193,ntmps193;go_wp2_with fail;refine (F.out _ Kt.out).mono ?_;rintro e w1 ⟨⟨LB,dL,rfl,j⟩,d⟩;have r:=yq7 u d;obtain⟨Kn,Kq⟩:=yq0 (show RdB w1 w1.heap.size LB L from Rd.of_own j) (yq8 HR r);clear j d K M N J C s;go_wp2_with fail;go_loopw [9] (λd wr=>∃k:Nat,k<=m/\d=.int .i64 k/\Hid (xK G (L.drop k)=jp G f)/\Below w1.heap.size w1 wr) (λi _=>m-(intOf i).toNat)
 case atStart=>exact⟨0,kqv _,rfl,Km.out.symm,kqe _ _⟩
 obtain⟨k,hk,rfl,O,Q⟩:=hrel;have hz:=Q.size;by_cases Kf:k<m
 .have V:k<L.length:=by rw[HM.out];exact Kf
  obtain⟨a,s,i⟩:=Ka.out L[k] (kqp V);obtain⟨b,d,rfl,hbb,q0,Z,q2,q3,q4,q5⟩:=RdB.at_ (Rd.below Kn.out Q) V;obtain⟨l,Kl,Kp⟩:=yq1 (λW h=>Ks.out a W i h) (λW o h2=>Eq.out a W o h2) (Ko.out a);have Lb:=Kv.out a i;have g:=Kg.out k V;have o:=HZ.out;rw[<-O.out,g,s,af,aU] at o;rw[O.out,s,af,aU] at g;rw[s] at q0 Z q2 q3 q4 q5;rw[af] at q0;rw[aU] at Z;have D:sF (bkAt G a)=.agg #[.int .i64 (a:Int),.int .i64 ((szAt G a:Nat):Int),.int .i64 (bkAt G a).kind,.int .i64 (bkAt G a).typ,.bool (bkAt G a).mark,.int .u64 ((bkAt G a).next:Int)]:=rfl;rw[D] at l;obtain⟨R,E⟩:=xq (da G (bkAt G a));rw[E] at l o g;obtain⟨z,B⟩:=xq (szAt G a);rw[B] at l o g Lb Z;obtain⟨K,H⟩:=xq ((bkAt G a).kind);obtain⟨T,C⟩:=xq ((bkAt G a).typ);obtain⟨M,v⟩:=xq ((bkAt G a).mark);obtain⟨N,y⟩:=xq ((bkAt G a).next);rw[H,C,v,y] at l;rw[H] at q2;rw[C] at q3;rw[v] at q4;rw[y] at q5;have P:=y5 (Kq.out.up Q hz);have Ke:(0:Int)<=(k:Int):=(by omega);have hki:(k:Int)<(m:Int):=(by omega);have U:b<wr.heap.size:=(by omega);have Y:=y5 Q;clear Q i s D E B H C v y;by_cases v:R=[]
  .rw[if_pos v] at g;have s:=y5 g.symm;subst v;clear g o;go_wp2_with fail;refine (l.out _ P.out).mono ?_;rintro e w2 ⟨⟨B2,d2,rfl,-⟩,i⟩;have C:=y5 (Y.out.trans (i.mono hz));clear i q0 Z q2 q3 q4 q5;simp only[kxd];go_wp2;go_roundw;exact⟨k+1,by omega,by go_num,s.out,C.out⟩;simp[intOf];omega
  rw[if_neg v] at g o;by_cases s:cM G (a:Int)=0
  .rw[if_pos s] at g;have Kz:=Kp.out s;have J:=y5 (λW h=>Kl.out W s h);obtain⟨E,D⟩:∃E,cB G (a:Int)=E:=⟨_,rfl⟩;rw[D] at g Kz J;rw[show ((a:Int)+(z:Int)).toNat=a+z by omega] at g;have HV:=y5 g;have y:¬ R.length=0:=λh=>v (kxe h);obtain⟨lr,h⟩:=xq R.length;rw[h] at l y;have l0:((lr:Int)==0)=false:=(by rw[kqc];omega);have l0n:(lr==0)=false:=by rw[kqc];exact y
   have wmz:IntKind.i64.wrap ((a:Int)+(z:Int))=(a:Int)+(z:Int):=kqo _ (by omega);have wmu:IntKind.u64.wrap ((a:Int)+(z:Int))=(a:Int)+(z:Int):=kzi _ (by omega);have Kj:=y5 (show (((a+z:Nat)):Int)=(a:Int)+(z:Int) by omega);clear g o s D y h v;go_wp2_with fail;refine (l.out _ P.out).mono ?_;rintro e w2 ⟨⟨B2,d2,rfl,-⟩,i⟩;have I:=(i.cell (p:=⟨b,d+k*6,none⟩) U).trans q0;have X:=(i.cell (p:=⟨b,d+k*6+1,none⟩) U).trans Z;have C:=y5 (Y.out.trans (i.mono hz));have Kr:=yq9 P i;have y:b<w2.heap.size:=kxm U i.size;clear i q0 Z q2 q3 q4 q5;go_wp2_with fail;refine (J.out _ Kr.out).mono ?_;rintro e w3 ⟨⟨A3,c3,rfl,h⟩,i⟩;have s0:=(i.cell (p:=⟨b,d+k*6,none⟩) y).trans I;have s1:=(i.cell (p:=⟨b,d+k*6+1,none⟩) y).trans X;have Kh:=yq7 C i;obtain⟨Kk,HOE⟩:=yq0 (Rd.of_own h) h;have D:=y5 (r.out.trans (Kh.out.mono r.out.size)).drew;have Kc:b<w3.heap.size:=kxm y i.size;clear i I X h;go_wp2_with fail;refine kz4 (S:=λX:World=>X.cell? ⟨b,d+k*6,none⟩=some (.int .i64 (a:Int))/\X.cell? ⟨b,d+k*6+1,none⟩=some (.int .i64 (z:Int))) (by kernel_rfl) ⟨s0,s1⟩ (λh=>?_)
   show wpAnyH _ _ _ _ _ 18 _ _ _;refine tj 0 (.slice (some ⟨b,d,none⟩) m dL) ?_;refine tj 1 (.int .i64 (k:Int)) ?_;refine tj 2 (.pointer (some ⟨b,d+k*6,none⟩)) ?_;refine tj 3 (.pointer (some ⟨b,d+k*6,none⟩)) ?_;refine tj 4 (.int .i64 (a:Int)) ?_;refine tj 5 (.slice (some ⟨b,d,none⟩) m dL) ?_;refine tj 6 (.int .i64 (k:Int)) ?_;refine tj 7 (.pointer (some ⟨b,d+k*6,none⟩)) ?_;refine tj 8 (.pointer (some ⟨b,d+k*6+1,none⟩)) ?_;refine tj 9 (.int .i64 (z:Int)) ?_;refine tj 10 (.int .i64 ((a:Int)+(z:Int))) ?_;refine tj 11 (.int .u64 ((a:Int)+(z:Int))) ?_;refine tj 12 (.agg #[.int .i64 17,.int .u64 ((a:Int)+(z:Int))]) ?_;refine tj 14 (.slice A3 E.length c3) ?_;dsimp only[Act.put,kqr,kqn,kql,kqd,kqk,kqj];have X:=y5 (show Rd w3.drew w3.drew.heap.size A3 (E.flatMap En.cells) from Kk.out);obtain⟨W,i⟩:=xq w3.drew;have I:b<W.heap.size:=by rw[<-i];exact Kc
   rw[i] at D X h |-;clear i;simp only[kqd,kqk,kqj];refine kzr (rs:=[13]) (by kernel_rfl) (by simp) ?_;refine AllReadyH.cons rfl (λK H=>?_) AllReadyH.nil;go_simp;refine H.out _ _ ⟨(kzc W _ ⟨b,d+k*6,none⟩ I).trans h.1,(kzc W _ ⟨b,d+k*6+1,none⟩ I).trans h.2⟩ (λKu=>?_);clear H K;refine kzr (rs:=[15]) (by kernel_rfl) (by simp) ?_;refine AllReadyH.cons rfl (λK H=>?_) AllReadyH.nil;refine dD _ _ _ 26 (by rfl) W.heap.size 89 i0 _ 2 16 underlying26 HI.out Kw.out Kx.out Ky.out rfl (by decide) (.slice (some ⟨W.heap.size,0,none⟩) 1 1) 1 [.int .i64 17,.int .u64 ((a:Int)+(z:Int))] (by rfl) (a8 (n:=1) (sz:=2) W 89 #[.int .i64 17,.int .u64 ((a:Int)+(z:Int))] (kqa _) (by rfl) (by unfold maxLen;omega)) W.heap.size A3 E.length c3 (E.flatMap En.cells) (by rfl) (by rw[bU En.cells 2 En.len]) (Rd.alloc X.out (kqa _) _) (db En.one _) (by unfold maxLen;omega) (by omega) (by rw[kqm];omega) ?_;intro v1 w8 j Kd;have i:=bi ((kqe W.heap.size W).alloc (kqa _) _) (by simp) (a8 (n:=1) (sz:=2) W 89 #[.int .i64 17,.int .u64 ((a:Int)+(z:Int))] (kqa _) (by rfl) (by unfold maxLen;omega)) Kd;have Ki:=y5 i
   refine H.out _ _ ⟨(i.cell (p:=⟨b,d+k*6,none⟩) I).trans h.1,(i.cell (p:=⟨b,d+k*6+1,none⟩) I).trans h.2⟩ (λHS4=>?_);have h:=y5 j;clear H K Ku j Kd i;simp only[Act.put,kqd,kqk,kqj];have o:=ab h.out D.out.size;rw[kjj] at o;obtain⟨i,c9,rfl⟩:=aw o;have H1:=y5 o;clear o;refine tj 16 (.slice i (E.length+1) c9) ?_;refine tj 17 (.int .i64 0) ?_;dsimp only[Act.put,kqr,kqn,kql,kqd,kqk,kqj];refine kx0 (by kernel_rfl) ?_ _;go_wp2;go_ret2;rw[HV.out];refine⟨⟨i,c9,rfl,?_⟩,D.out.trans (Ki.out.mono D.out.size)⟩;have h2:=H1.out;rw[<-Kj.out] at h2;exact h2
  rw[if_neg s] at o;exact absurd o s
 have d:k=m:=(by omega);have HV:Hid (jp G f=(0,cc)):=y5 (by
  rw[<-O.out,d,<-HM.out,kj2];rfl)
 have hkd:decide ((k:Int)<(m:Int))=false:=(by rw[kqb];omega);have hkn:decide (k<m)=false:=by rw[kqb];exact Kf
 have Y:=yq7 r Q;clear d Q;go_wp2;go_ret2;rw[HV.out];exact⟨⟨some ⟨wr.heap.size,0,none⟩,3,rfl,a8 (n:=3) (sz:=2) wr 89 #[.int .i64 16,.int .u64 4,.int .i64 17,.int .u64 128,.int .i64 18,.int .u64 128] Y.out.size rfl (by unfold maxLen;omega)⟩,Y.out.alloc Y.out.size _⟩
theorem I4(A:Option Addr)(G:List Nat)(c n:Nat)(w:World)(I:G.length=n)(h:(ah G).1=0)(hr:RdW w w.heap.size A G)(U:∀x∈G,x<2^64):
 Calls prog 132 #[.slice A n c] w λe a=>ey w.heap.size 0 (ah G).2 e a/\Below w.heap.size w a:=by
 obtain⟨v,Kb⟩:=DJ h;obtain⟨-,hs,R,y⟩:=cP v;have D:=jH v;have hb:=(ae _).1 hs;rw[I] at hb;obtain⟨⟨l1,l2,l3⟩,-⟩:=(bo G).1 R;obtain⟨V,u⟩:=yq0 (n8 A G c n w I v hr U) (λW (h:RdW W W.heap.size A G)=>kJ A G c n W I D h U);unfold phV at u;have Y:=y5 hr;have S:n<=2048:=(by omega);obtain⟨f,hf⟩:=xq (wd G 17);obtain⟨t,ht⟩:=xq (wd G 18);rw[hf,ht] at u y;rw[hf] at Kb l2;rw[ht] at Kb l3;rcases Kb with⟨p1,F,J⟩|⟨p2,F,J⟩|⟨p3,Q,Ki,J⟩|⟨p3,Q,Kj,J⟩|⟨p4,m,l,L,Kg,Kh,Kc,Kk,f1,f2,f3,Kr,J⟩
 .rw[p1] at u;rw[J];simp only[kq1] at u;have Eq:(aO G).length<=1024:=by rw[eM F,kzw];have h1:=mR (seenL G) (aa G);have h2:=dI G;omega
  have q:=y5 (λW (h:RdW W W.heap.size A G)=>xF A G c n W I F h U);unfold ey at q;obtain⟨E,C⟩:=xq (aO G);rw[C] at q Eq |-;have B:=y5 (λT c1 H W M hH=>sL T E c1 E.length 2 H W rfl (by omega) (by omega) M hH);unfold JL at B;clear hr U h v hs R y D hf ht p1 F J C hb l1 l2 l3 I S;go_enter func132,ntmps132;go_wp2_with fail;refine V.out.mono ?_;rintro e w1 ⟨rfl,g⟩;have o:=y5 g;have r:=yq9 Y g;clear g;go_wp2_with fail;refine (u.out w1 r.out).mono ?_;rintro e w2 ⟨rfl,p⟩;have i:=o.out.trans (p.mono o.out.size);have d:=y5 (i.alloc i.size (.cells #[.int .i64 1,.int .i64 (f:Int),.int .i64 (t:Int)] 107));obtain⟨s,Z⟩:=yq0 (yq8 Y d) (Bx.new w2 107 #[.int .i64 1,.int .i64 (f:Int),.int .i64 (t:Int)]);clear p i;go_wp2_with fail;refine (q.out _ s.out).mono ?_;rintro e O ⟨⟨N,c3,rfl,a⟩,j⟩;have k:=yq7 d j;have z:=y5 (ab a d.out.size);clear a j;go_wp2_with fail;refine (B.out _ _ _ _ z.out k.out.size).mono ?_;rintro e w4 ⟨⟨A4,c4,rfl,b⟩,K⟩;have P:=yq7 k K;have X:=y5 b;clear b K;go_wp2;go_ret2;exact⟨⟨A4,c4,rfl,X.out⟩,P.out⟩
 .rw[p2] at u;rw[J];simp only[kq1] at u;have Eq:(aI G).length<=1024:=(qK F).1;have q:=y5 (λW (h:RdW W W.heap.size A G)=>wR A G c n W I F h U);unfold ey at q;obtain⟨E,C⟩:=xq (aI G);rw[C] at q Eq |-;have B:=y5 (λT c1 H W M hH=>sL T E c1 E.length 3 H W rfl (by omega) (by omega) M hH);unfold JL at B;clear hr U h v hs R y D hf ht p2 F J C hb l1 l2 l3 I S;go_enter func132,ntmps132;go_wp2_with fail;refine V.out.mono ?_;rintro e w1 ⟨rfl,g⟩;have o:=y5 g;have r:=yq9 Y g;clear g;go_wp2_with fail;refine (u.out w1 r.out).mono ?_;rintro e w2 ⟨rfl,p⟩;have i:=o.out.trans (p.mono o.out.size);have d:=y5 (i.alloc i.size (.cells #[.int .i64 2,.int .i64 (f:Int),.int .i64 (t:Int)] 107));obtain⟨s,Z⟩:=yq0 (yq8 Y d) (Bx.new w2 107 #[.int .i64 2,.int .i64 (f:Int),.int .i64 (t:Int)]);clear p i;go_wp2_with fail;refine (q.out _ s.out).mono ?_;rintro e O ⟨⟨N,c3,rfl,a⟩,j⟩;have k:=yq7 d j;have z:=y5 (ab a d.out.size);clear a j;go_wp2_with fail;refine (B.out _ _ _ _ z.out k.out.size).mono ?_;rintro e w4 ⟨⟨A4,c4,rfl,b⟩,K⟩;have P:=yq7 k K;have X:=y5 b;clear b K;go_wp2;go_ret2;exact⟨⟨A4,c4,rfl,X.out⟩,P.out⟩
 .rw[p3] at u;rw[J];simp only[kq1] at u;have b:=y5 (λW (h:RdW W W.heap.size A G)=>Eg A G c n 3 (t:Int) W I Ki h U);unfold ey at b;obtain⟨E,C⟩:∃E,(⟨17,128⟩:En)::dg G=E:=⟨_,rfl⟩;rw[C] at b |-;rw[Q] at u;simp only[kq1] at u;clear hr U h v hs R y D hf ht p3 Ki J C hb l1 l2 l3 I S Q;go_enter func132,ntmps132;go_wp2_with fail;refine V.out.mono ?_;rintro e w1 ⟨rfl,g⟩;have o:=y5 g;have r:=yq9 Y g;clear g;go_wp2_with fail;refine (u.out w1 r.out).mono ?_;rintro e w2 ⟨rfl,p⟩;have i:=o.out.trans (p.mono o.out.size);have d:=y5 (i.alloc i.size (.cells #[.int .i64 3,.int .i64 0,.int .i64 (t:Int)] 107));obtain⟨s,Z⟩:=yq0 (yq8 Y d) (Bx.new w2 107 #[.int .i64 3,.int .i64 0,.int .i64 (t:Int)]);clear p i;go_wp2_with fail;refine (b.out _ s.out).mono ?_;rintro e O ⟨⟨N,c3,rfl,a⟩,j⟩;have k:=yq7 d j;have z:=y5 (ab a d.out.size);clear a j;go_wp2;go_ret2;exact⟨⟨N,c3,rfl,z.out⟩,k.out⟩
 .rw[p3] at u;rw[J];simp only[kq1] at u;obtain⟨-,H⟩:=uh v;have M:ao G=0:=by
   rcases H with⟨q,-⟩|⟨-,-,q⟩|⟨q,-⟩
   .omega
   .exact q
   omega
  have B:=(dN D).2 p3 (by rw[hf];exact Q);rw[hf] at B;rw[p3] at y;have K:f%2=0:=by
   rcases (cy _ _ _).1 y with⟨q,-⟩|⟨-,-,q⟩|⟨q,-⟩
   .omega
   .exact ((a9 _).1 (q.resolve_left Q)).2.2
   omega
  have b:=y5 (λW (h:RdW W W.heap.size A G)=>I0 A G c n f 3 (t:Int) W I M Q B K (by omega) Kj h U);unfold ey at b;obtain⟨E,C⟩:=xq ((jp G f).2);rw[C] at b |-;clear hr U h v hs R y D hf ht p3 Kj J C hb l1 l2 l3 I S K B M H;go_enter func132,ntmps132;go_wp2_with fail;refine V.out.mono ?_;rintro e w1 ⟨rfl,g⟩;have o:=y5 g;have r:=yq9 Y g;clear g;go_wp2_with fail;refine (u.out w1 r.out).mono ?_;rintro e w2 ⟨rfl,p⟩;have i:=o.out.trans (p.mono o.out.size);have d:=y5 (i.alloc i.size (.cells #[.int .i64 3,.int .i64 (f:Int),.int .i64 (t:Int)] 107));obtain⟨s,Z⟩:=yq0 (yq8 Y d) (Bx.new w2 107 #[.int .i64 3,.int .i64 (f:Int),.int .i64 (t:Int)]);clear p i;go_wp2_with fail;refine (b.out _ s.out).mono ?_;rintro e O ⟨⟨N,c3,rfl,a⟩,j⟩;have k:=yq7 d j;have z:=y5 (ab a d.out.size);clear a j;go_wp2;go_ret2;exact⟨⟨N,c3,rfl,z.out⟩,k.out⟩
 rw[p4] at u;rw[J];simp only[kq1] at u;have Kl:=aC Kc;have H:=y5 (λW (h:RdW W W.heap.size A G)=>mB A G c n f l W I hs f2 f1 (by omega) Kg h U);unfold wW at H;rw[Kh] at H;have Ka:=y5 (λW (h:RdW W W.heap.size A G)=>Bg A G c n m t W I S (by omega) Kc Kk h);unfold JL at Ka;have Eq:(jj G m t).length<=2048:=(by rw[ic];omega);have eb:sF (bkAt G m)=.agg #[.int .i64 (m:Int),.int .i64 ((szAt G m:Nat):Int),.int .i64 (bkAt G m).kind,.int .i64 (bkAt G m).typ,.bool (bkAt G m).mark,.int .u64 ((bkAt G m).next:Int)]:=rfl;rw[eb] at Ka;have ec:(bkAt G m).cells=[.int .i64 (m:Int),.int .i64 ((szAt G m:Nat):Int),.int .i64 (bkAt G m).kind,.int .i64 (bkAt G m).typ,.bool (bkAt G m).mark,.int .u64 ((bkAt G m).next:Int)]:=rfl;have Kd:Hid (∀W B,RdB W W.heap.size B (bkAt G m::L)->∃b q,B=some ⟨b,q,none⟩/\b<W.heap.size/\W.cell? ⟨b,q+0*6,none⟩=some (.int .i64 (m:Int))/\W.cell? ⟨b,q+0*6+1,none⟩=some (.int .i64 ((szAt G m:Nat):Int))/\W.cell? ⟨b,q+0*6+2,none⟩=some (.int .i64 (bkAt G m).kind)/\W.cell? ⟨b,q+0*6+3,none⟩=some (.int .i64 (bkAt G m).typ)/\W.cell? ⟨b,q+0*6+4,none⟩=some (.bool (bkAt G m).mark)/\W.cell? ⟨b,q+0*6+5,none⟩=some (.int .u64 ((bkAt G m).next:Int))):=y5 λW B z=>by
  obtain⟨b,q,e,Kf,q0,q1,q2,q3,q4,q5⟩:=RdB.at_ z (show 0<(bkAt G m::L).length by simp);exact⟨b,q,e,Kf,q0,q1,q2,q3,q4,q5⟩
 obtain⟨W,Ke⟩:=yq0 (show (((m+szAt G m:Nat)):Int)=(m:Int)+((szAt G m:Nat):Int) by omega) (show (((t+szAt G m:Nat)):Int)=(t:Int)+((szAt G m:Nat):Int) by omega);obtain⟨z,hz⟩:=xq (szAt G m);obtain⟨K,hK⟩:=xq ((bkAt G m).kind);obtain⟨T,hT⟩:=xq ((bkAt G m).typ);obtain⟨M,hM⟩:=xq ((bkAt G m).mark);obtain⟨N,hN⟩:=xq ((bkAt G m).next);obtain⟨E,C⟩:=xq (jj G m t);rw[hz,hK,hT,hM,hN,C] at Ka;rw[hz,hK,hT,hM,hN] at Kd;rw[hz] at W Ke Kl |-;rw[C] at Eq |-;have waz:IntKind.i64.wrap ((m:Int)+(z:Int))=(m:Int)+(z:Int):=kqo _ (by omega);have wuz:IntKind.i64.wrap ((t:Int)+(z:Int))=(t:Int)+(z:Int):=kqo _ (by omega);have wav:IntKind.u64.wrap ((m:Int)+(z:Int))=(m:Int)+(z:Int):=kzi _ (by omega);have wuv:IntKind.u64.wrap ((t:Int)+(z:Int))=(t:Int)+(z:Int):=kzi _ (by omega);have B:∃LL,(bkAt G m::L).length=LL:=⟨_,rfl⟩;obtain⟨LL,B⟩:=B;have hLp:(0:Int)<(LL:Int):=by rw[<-B];simp
 have hLq:((LL:Int)==0)=false:=(by rw[kqc];omega);have hLqn:(LL==0)=false:=(by rw[kqc];omega);rw[B] at H;obtain⟨i0,hi,Eq,Km,Kn⟩:=kzh bE;obtain⟨HI,Ko,Kp,Kq⟩:=yq2 hi Eq Km Kn;clear hi Eq Km Kn;clear hr U h v hs R y D hf ht p4 J C hb l1 l2 l3 I S Kl eb ec hz hK hT hM hN Kg Kh Kc Kk f1 f2 f3 Kr B;go_enter func132,ntmps132;go_wp2_with fail;refine V.out.mono ?_;rintro e w1 ⟨rfl,g⟩;have o:=y5 g;have r:=yq9 Y g;clear g;go_wp2_with fail;refine (u.out w1 r.out).mono ?_;rintro e w2 ⟨rfl,p⟩;have i:=o.out.trans (p.mono o.out.size);have d:=y5 (i.alloc i.size (.cells #[.int .i64 4,.int .i64 (f:Int),.int .i64 (t:Int)] 107));obtain⟨s,Z⟩:=yq0 (yq8 Y d) (Bx.new w2 107 #[.int .i64 4,.int .i64 (f:Int),.int .i64 (t:Int)]);clear p i;go_wp2_with fail;obtain⟨p0,p1,p2,-⟩:=Z.out.c3;refine (H.out _ s.out).mono ?_;rintro e O ⟨⟨D,dL,rfl,a⟩,j⟩;obtain⟨b,q,rfl,Kf,q0,q1,q2,q3,q4,q5⟩:=Kd.out O D (show RdB O O.heap.size D _ from Rd.of_own a);have h:=d.out.trans (j.mono d.out.size);simp only[kve,kxb] at q0 q1 q2 q3 q4 q5;obtain⟨-,-,-,-,-,-,pl⟩:=(Z.out.up j Z.out.lt).c3;obtain⟨-,-,p2,-⟩:=((Z.out.up j Z.out.lt).alloc (.cells #[.int .i64 (m:Int),.int .i64 (z:Int),.int .i64 K,.int .i64 T,.bool M,.int .u64 (N:Int)] 55)).c3
 obtain⟨-,-,r2,-⟩:=(((Z.out.up j Z.out.lt).alloc (.cells #[.int .i64 (m:Int),.int .i64 (z:Int),.int .i64 K,.int .i64 T,.bool M,.int .u64 (N:Int)] 55)).alloc (.cells #[.int .i64 17,.int .u64 ((m:Int)+(z:Int)),.int .i64 18,.int .u64 ((t:Int)+(z:Int))] 89)).c3;obtain⟨s0,s1,s2,s3,s4,s5,-⟩:=(Bx.new O 55 #[.int .i64 (m:Int),.int .i64 (z:Int),.int .i64 K,.int .i64 T,.bool M,.int .u64 (N:Int)]).c6;obtain⟨t0,t1,t2,t3,t4,t5,-⟩:=((Bx.new O 55 #[.int .i64 (m:Int),.int .i64 (z:Int),.int .i64 K,.int .i64 T,.bool M,.int .u64 (N:Int)]).alloc (.cells #[.int .i64 17,.int .u64 ((m:Int)+(z:Int)),.int .i64 18,.int .u64 ((t:Int)+(z:Int))] 89)).c6;obtain⟨P,o⟩:=yq0 ((h.alloc h.size (.cells #[.int .i64 (m:Int),.int .i64 (z:Int),.int .i64 K,.int .i64 T,.bool M,.int .u64 (N:Int)] 55)).alloc (kzu h.size (by simp)) (.cells #[.int .i64 17,.int .u64 ((m:Int)+(z:Int)),.int .i64 18,.int .u64 ((t:Int)+(z:Int))] 89)) (((kqe O.heap.size O).alloc (kqa _) (.cells #[.int .i64 (m:Int),.int .i64 (z:Int),.int .i64 K,.int .i64 T,.bool M,.int .u64 (N:Int)] 55)).alloc (by simp) (.cells #[.int .i64 17,.int .u64 ((m:Int)+(z:Int)),.int .i64 18,.int .u64 ((t:Int)+(z:Int))] 89))
 obtain⟨X,y,k⟩:=yq1 (ab (a8 (n:=2) (sz:=2) (O.alloc (.cells #[.int .i64 (m:Int),.int .i64 (z:Int),.int .i64 K,.int .i64 T,.bool M,.int .u64 (N:Int)] 55)) 89 #[.int .i64 17,.int .u64 ((m:Int)+(z:Int)),.int .i64 18,.int .u64 ((t:Int)+(z:Int))] (kqa _) (by rfl) (by unfold maxLen;omega)) (show O.heap.size<=_ by simp)) (yq8 Y P) h;clear j h a;go_wp2_with fail;refine (Ka.out _ y.out).mono ?_;rintro e B ⟨⟨C,c6,rfl,d⟩,i⟩;have g:=yq7 o i;obtain⟨h,v⟩:=yq0 (ag X.out i (kqa _)) (show RdE B B.heap.size C E from Rd.of_own d);clear i d;rw[kqm] at h;go_wp2_with (at_builtin;refine aW _ (by rfl) _ _ 26 rfl O.heap.size 89 i0 _ 2 16 underlying26 HI.out Ko.out Kp.out Kq.out rfl (by decide) _ 2 _ (by rfl) h.out B.heap.size C E.length c6 (E.flatMap En.cells) (by rfl) (by rw[bU En.cells 2 En.len]) v.out (db En.one _) (by unfold maxLen;omega) (by omega) g.out.size ?_;intro v1 wa d r;have p:=bi g.out g.out.size h.out r;have i:=y5 d;have s:=y5 p;clear d p r);have h1:=ab i.out k.out.size;rw[kjj] at h1;obtain⟨d,r,rfl⟩:=aw h1;have p:=y5 h1;clear h1;go_ret2;refine⟨⟨d,r,rfl,?_⟩,k.out.trans (s.out.mono k.out.size)⟩;have h2:=p.out;rw[<-W.out,<-Ke.out] at h2;exact h2
theorem Fw(A:Option Addr)(G:List Nat)(c n:Nat)(w:World)(u:G.length=n)(k:aB G=0)(h:wd G 16=0\/wd G 16=4/\dJ G=0)(z:RdW w w.heap.size A G)(v:∀x∈G,x<2^64):
 Calls prog 132 #[.slice A n c] w λe a=>e=.returned (.tuple #[.slice none 0 0,.int .i64 6])/\Below w.heap.size w a:=by
 obtain⟨-,B,-,-⟩:=cP k;have p:=jH k;obtain⟨r,m⟩:=yq0 (n8 A G c n w u k z v) (λW (h:RdW W W.heap.size A G)=>kJ A G c n W u p h v);unfold phV at m;have y:=y5 z;obtain⟨t,C⟩:=xq (wd G 18);rw[C] at m;rcases h with h|⟨h,F⟩
 .rw[h] at m;obtain⟨f,q⟩:=xq (wd G 17);rw[q] at m;(try simp only[kq1] at m);clear z v k B p q C h u;go_enter func132,ntmps132;go_wp2_with fail;refine r.out.mono ?_;rintro e D ⟨rfl,a⟩;have g:=y5 a;have o:=yq9 y a;clear a;go_wp2_with fail;refine (m.out D o.out).mono ?_;rintro e E ⟨rfl,j⟩;have d:=g.out.trans (j.mono g.out.size);have b:=y5 (d.alloc d.size (.cells #[.int .i64 0,.int .i64 (f:Int),.int .i64 (t:Int)] 107));obtain⟨s,L⟩:=yq0 (yq8 y b) (Bx.new E 107 #[.int .i64 0,.int .i64 (f:Int),.int .i64 (t:Int)]);clear j d;go_wp2;go_ret2;exact⟨rfl,b.out⟩
 obtain⟨l,H,I,J,K,M⟩:=z9 F;have i:=y5 (λW (h:RdW W W.heap.size A G)=>mB A G c n (wd G 17) l W u B K J (by omega) H h v);rw[I] at i;unfold wW at i;simp only[kxd] at i;obtain⟨f,q⟩:=xq (wd G 17);rw[h,q] at m;rw[q] at i;(try simp only[kq1] at m);clear z v k B p q C h F H I J K M u;go_enter func132,ntmps132;go_wp2_with fail;refine r.out.mono ?_;rintro e D ⟨rfl,a⟩;have g:=y5 a;have o:=yq9 y a;clear a;go_wp2_with fail;refine (m.out D o.out).mono ?_;rintro e E ⟨rfl,j⟩;have d:=g.out.trans (j.mono g.out.size);have b:=y5 (d.alloc d.size (.cells #[.int .i64 4,.int .i64 (f:Int),.int .i64 (t:Int)] 107));obtain⟨s,L⟩:=yq0 (yq8 y b) (Bx.new E 107 #[.int .i64 4,.int .i64 (f:Int),.int .i64 (t:Int)]);clear j d;go_wp2_with fail;refine (i.out _ s.out).mono ?_;rintro e w3 ⟨⟨LB,dL,rfl,-⟩,h⟩;have k:=yq7 b h;clear h;go_wp2;go_ret2;exact⟨rfl,k.out⟩
theorem D9(A:Option Addr)(G:List Nat)(c n:Nat)(w:World)(o:G.length=n)(h:(dy G).1=0)(r:RdW w w.heap.size A G)(p:∀x∈G,x<2^64):
 Calls prog 86 #[.slice A n c] w λe a=>uo w.heap.size 0 (dy G).2.1 (dy G).2.2 e a/\Below w.heap.size w a:=by
 have y:=y5 r;by_cases s:(ah G).1=6
 .obtain ⟨f,t⟩:=nx_six h s;have j:=jH f;obtain⟨b,g⟩:=yq0 (Fw A G c n w o f (by rcases t with⟨q,-⟩|⟨q,H,-⟩;exact .inl q;exact .inr ⟨q,H⟩) r p) (λW (h:RdW W W.heap.size A G)=>kJ A G c n W o j h p);unfold phV at g;rcases t with⟨q,k⟩|⟨q,u,k⟩
  .rw[k];rw[q] at g;generalize wd G 17=F at g;generalize wd G 18=T at g;(try simp only[kq1] at g);clear r p f j h s k q o;unfold uo;go_enter func86,ntmps86;go_wp2_with fail;refine b.out.mono ?_;rintro e B ⟨rfl,a⟩;have d:=y5 a;have m:=yq9 y a;clear a;go_wp2_with fail;refine (g.out _ m.out).mono ?_;rintro e I ⟨rfl,i⟩;have l:=yq7 d i;clear i;go_wp2;go_ret3;exact⟨⟨none,0,rfl,kq3 _ _ _ _⟩,l.out.alloc l.out.size _⟩
  have l:=y5 (λW (h:RdW W W.heap.size A G)=>yO A G c n W o u h p);unfold ey at l;rw[k];rw[q] at g;generalize wd G 17=F at g;generalize wd G 18=T at g;generalize du G=Z at l;(try simp only[kq1] at g);clear r p f j h s k q o u;unfold uo;go_enter func86,ntmps86;go_wp2_with fail;refine b.out.mono ?_;rintro e B ⟨rfl,a⟩;have d:=y5 a;have m:=yq9 y a;clear a;go_wp2_with fail;refine (g.out _ m.out).mono ?_;rintro e I ⟨rfl,i⟩;have j:=d.out.trans (i.mono d.out.size);have f:=y5 (j.alloc j.size (.cells #[.int .i64 4,.int .i64 (F:Int),.int .i64 (T:Int)] 107));have z:=y5 (yq8 y f);clear i j;go_wp2_with fail;refine (l.out _ z.out).mono ?_;rintro e w3 ⟨⟨C,D,rfl,j⟩,q⟩;have u:=yq7 f q;have v:=y5 (ab j f.out.size);clear q j;go_wp2;go_ret3;exact⟨⟨C,D,rfl,v.out⟩,u.out⟩
 obtain⟨d,k⟩:=nx_one h s;have b:=y5 (I4 A G c n w o d r p);unfold ey at b;rw[k];generalize (ah G).2=E at b;clear r p s k d h o;unfold uo;go_enter func86,ntmps86;go_wp2_with fail;refine b.out.mono ?_;rintro e B ⟨⟨g,h,rfl,d⟩,a⟩;have f:=y5 d;clear d;go_wp2;go_ret3;exact⟨⟨g,h,rfl,f.out⟩,a⟩
def FiR2 (e:Ending) (w':World):Prop:=∃A c,e=.returned (.slice A 1 c)/\RdE w' w'.heap.size A [⟨16,1⟩]
theorem Fo(w:World):Calls prog 45 #[] w λe a=>FiR2 e a/\Below w.heap.size w a:=by have c:=y5 (a8 (n:=1) (sz:=2) w 89 #[.int .i64 16,.int .u64 1] (kqa _) (by rfl) (by unfold maxLen;omega));have a:=y5 ((kqe w.heap.size w).alloc (kqa _) (.cells #[.int .i64 16,.int .u64 1] 89));go_enter func45,ntmps45;go_wp2;go_ret;have b:RdE (w.alloc (.cells #[.int .i64 16,.int .u64 1] 89)) (w.alloc (.cells #[.int .i64 16,.int .u64 1] 89)).heap.size (some ⟨w.heap.size,0,none⟩) [⟨16,1⟩]:=Rd.of_own c.out;exact⟨⟨some ⟨w.heap.size,0,none⟩,1,rfl,b⟩,a.out⟩
end Go.Proofs.YtpcajamacpbjcaaGreat
