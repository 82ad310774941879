/- Models: the graph of objects by numbers, and its canonical form. Plain. -/
import Derived.Test.YtpcajamacpbjcaaGreatZKCp2
import Derived.Test.YtpcajamacpbjcaaGreatZKR19
import Derived.Test.YtpcajamacpbjcaaGreatZKRch
import Derived.Laws.BytesArg
import Derived.Test.YtpcajamacpbjcaaGreatZKLy1
import Derived.Test.YtpcajamacpbjcaaGreatZKStg1
import Derived.Test.YtpcajamacpbjcaaGreatZChP
set_option maxHeartbeats 16000000
set_option maxRecDepth 100000
set_option linter.all false
namespace Go.Proofs.YtpcajamacpbjcaaGreat
open Go.RowKit
variable {O:List Bk}{ad:List Int}{F ws:List Nat}{B a b i k m n q:Nat}{A:Option Addr}{W w w':World}
open Go.Proofs.Tryz
theorem lC{α β:Type}{f g:α->Option β}:∀ {l:List α},(∀x∈l,f x=g x)->l.filterMap f=l.filterMap g:=by
 intro l
 induction l with
 | nil=>intro _;rfl
 | cons x l ih =>intro h;rw[kjw,kjw,h x (by simp),ih λy a=>h y (kzj _ a)]
def kX (adj:Nat->List Nat):Nat->List Nat->Nat->List Nat
 | 0,o,_=>o
 | f+1,o,n=>if n∈o then o else (adj n).foldl (kX adj f) (o++[n])
theorem Ca{A B:Nat->List Nat}{g:Nat->Nat}{S:Nat->Prop}(hcl:∀n,S n->∀k∈A n,S k)(hadj:∀n,S n->B (g n)=(A n).map g)(hinj:∀a b,S a->S b->g a=g b->a=b):
 ∀f o n,(∀x∈o,S x)->S n->kX B f (o.map g) (g n)=(kX A f o n).map g/\∀x∈kX A f o n,S x:=by
 intro f
 induction f with
 | zero=>intro o n d _;exact⟨rfl,d⟩
 | succ f ih =>
  intro o n d i;simp only[kX];have m:g n∈o.map g↔n∈o:=by
   constructor
   .intro h;obtain⟨x,c,e⟩:=kzi.1 h;have:=hinj x n (d x c) i e;exact this ▸ c
   exact λh=>kzi.2 ⟨n,h,rfl⟩
  by_cases h:n∈o
  .rw[if_pos (m.2 h),if_pos h];exact⟨rfl,d⟩
  rw[if_neg (λq=>h (m.1 q)),if_neg h,hadj n i];have j:∀(l:List Nat),(∀k∈l,S k)->∀o,(∀x∈o,S x)->(l.map g).foldl (kX B f) (o.map g)=(l.foldl (kX A f) o).map g/\∀x∈l.foldl (kX A f) o,S x:=by
   intro l
   induction l with
   | nil=>intro _ o d;exact⟨rfl,d⟩
   | cons k l ihl =>intro p o d;obtain⟨r,s⟩:=ih o k d (p k (by simp));simp only[kxk,kkg];rw[r];exact ihl (λx c=>p x (kzj _ c)) _ s
  have:=j (A n) (hcl n i) (o++[n]) λx c=>by
   rcases kzo.1 c with c|c
   .exact d x c
   rw[kq1] at c;rw[c];exact i
  rw[kxa] at this;exact this
def jN (o:List Nat) (n:Nat):Nat:=if n∈o then o.idxOf n+1 else 0
theorem GF{g:Nat->Nat}{S:Nat->Prop}(hinj:∀a b,S a->S b->g a=g b->a=b)(hn:S n):∀o:List Nat,(∀x∈o,S x)->(o.map g).idxOf (g n)=o.idxOf n:=by
 intro o
 induction o with
 | nil=>intro _;rfl
 | cons x o ih =>
  intro h;rw[kxk,List.idxOf_cons,List.idxOf_cons];by_cases e:x=n
  .subst e;simp
  have d:g x≠g n:=λc=>e (hinj x n (h x (by simp)) hn c);rw[show (g x==g n)=false by rw[kqi];exact d,show (x==n)=false by rw[kqi];exact e,ih λy f=>h y (kzj _ f)]
theorem Ax{g:Nat->Nat}{S:Nat->Prop}(hinj:∀a b,S a->S b->g a=g b->a=b)(hn:S n){o:List Nat}(h:∀x∈o,S x):jN (o.map g) (g n)=jN o n:=by
 unfold jN;have f:g n∈o.map g↔n∈o:=by
  constructor
  .intro d;obtain⟨x,i,e⟩:=kzi.1 d;have:=hinj x n (h x i) hn e;exact this ▸ i
  exact λh=>kzi.2 ⟨n,h,rfl⟩
 rw[GF hinj hn o h];by_cases c:n∈o
 .rw[if_pos (f.2 c),if_pos c]
 rw[if_neg (λd=>c (f.1 d)),if_neg c]
structure Ob where
 typ:Int
 fl:List Nat
 deriving Inhabited
structure Md where
 types:List (List Nat)
 slots:List Sl
 objs:List Ob
def qi (T:List (List Nat)) (ty:Int) (i:Nat):Bool:=(T[ty.toNat]?.getD [])[i]? == some 3
def fdO (o:Ob) (i:Nat):Nat:=o.fl[i]?.getD 0
def CD (T:List (List Nat)) (o:Ob) (j:Nat):List Nat:=(List.range j).filterMap λi=>if qi T o.typ i=true/\fdO o i≠0 then some (fdO o i-1) else none
def tyO (T:List (List Nat)) (o:Ob):List Nat:=T[o.typ.toNat]?.getD []
def oZ (m:Md) (n:Nat):List Nat:=match m.objs[n]? with
 | none=>[]
 | some o=>CD m.types o (tyO m.types o).length
def jA (m:Md) (F:Nat) (l:List Sl) (o:List Nat):List Nat:=l.foldl (λo s=>if s.used=true then kX (oZ m) F o s.at_.toNat else o) o
def d9 (m:Md):List Nat:=jA m 2048 m.slots []
def kW (T:List (List Nat)) (o:List Nat) (x:Ob):Ob:={ x with fl:=(List.range x.fl.length).map λi=>if qi T x.typ i=true/\fdO x i≠0 then jN o (fdO x i-1) else fdO x i }
def lS (o:List Nat) (s:Sl):Sl:=if s.used=true then { s with at_:=(jN o s.at_.toNat:Int)-1 } else s
def rR (m:Md):Md:=⟨m.types,m.slots.map (lS (d9 m)),(d9 m).map λn=>kW m.types (d9 m) (m.objs[n]?.getD default)⟩
def l8 (O:List Bk) (a:Int):Nat:=O.findIdx λb=>b.at_==a
def xT (ws:List Nat) (O:List Bk) (F:List Nat) (a i:Nat):Nat:=if F[i]? = some 3/\wd ws (a+2+i)≠0 then l8 O (wd ws (a+2+i):Int)+1 else wd ws (a+2+i)
def obM (ws:List Nat) (O:List Bk) (a:Nat):Ob:=⟨(ah (wd ws a)).typ,(List.range (flds ws a).length).map λi=>xT ws O (flds ws a) a i⟩
def slM (O:List Bk) (s:Sl):Sl:=if s.used=true then { s with at_:=(l8 O s.at_:Int) } else s
def mdl (ws:List Nat) (t:Nat):Md:=⟨eB ws t 8,(List.range 16).map λi=>slM (objs (aa ws)) (slAt ws i),(objs (aa ws)).map λb=>obM ws (objs (aa ws)) b.at_.toNat⟩
section
variable {ws:List Nat} {t:Nat}
theorem mj(h0:af ws=0):(objs (aa ws)).Pairwise (λa b=>a.at_<b.at_):=List.Pairwise.sublist List.filter_sublist (bG h0).2
theorem idx_at(hp:O.Pairwise (λa b=>a.at_<b.at_))(hk:k<O.length):l8 O O[k].at_=k:=by unfold l8;rw[List.findIdx_eq hk];refine⟨by rw[kqx],λj c=>?_⟩;rw[kzf] at hp;have:=hp j k (by omega) hk c;rw[kqi];omega
theorem jJ(h0:af ws=0)(ho:cb ws a):l8 (objs (aa ws)) (a:Int)<(objs (aa ws)).length/\(objs (aa ws))[l8 (objs (aa ws)) (a:Int)]? = some (bkAt ws a):=by obtain⟨k,b,e⟩:=kqu (tu ho);have:=idx_at (mj h0) b;rw[e,ab] at this;rw[this];exact⟨b,by rw[kqj b,e]⟩
theorem Ib(h0:af ws=0)(ha:cb ws a)(hb:cb ws b)(h:l8 (objs (aa ws)) (a:Int)=l8 (objs (aa ws)) (b:Int)):a=b:=by have c:=(jJ h0 ha).2;have d:=(jJ h0 hb).2;rw[h,d] at c;have:=congrArg Bk.at_ (Option.some.inj c);rw[ab,ab] at this;omega
theorem rZ(h0:af ws=0)(ho:cb ws a):(mdl ws t).objs[l8 (objs (aa ws)) (a:Int)]? = some (obM ws (objs (aa ws)) a):=by unfold mdl;rw[kzh,(jJ h0 ho).2];simp[ab]
theorem Lay.tyM(h:Lay ws t)(ho:cb ws a):tyO (mdl ws t).types (obM ws (objs (aa ws)) a)=flds ws a:=by obtain⟨-,-,-,b,-⟩:=h.obj ho;unfold tyO mdl obM;rw[b];rfl
theorem Lay.mref(h:Lay ws t)(ho:cb ws a)(i:Nat):qi (mdl ws t).types (obM ws (objs (aa ws)) a).typ i=true↔(flds ws a)[i]? = some 3:=by have:=h.tyM ho;unfold tyO at this;unfold qi;rw[this,kqx]
theorem uf(O:List Bk)(hi:i<(flds ws a).length):fdO (obM ws O a) i=xT ws O (flds ws a) a i:=by unfold fdO obM;rw[kzh,kxq hi];rfl
theorem Lay.adj_(h:Lay ws t)(ho:cb ws a):oZ (mdl ws t) (l8 (objs (aa ws)) (a:Int))=(List.range (flds ws a).length).filterMap λi=>if (flds ws a)[i]? = some 3/\wd ws (a+2+i)≠0 then some (l8 (objs (aa ws)) (wd ws (a+2+i):Int)) else none:=by
 unfold oZ;rw[rZ h.hp ho];dsimp only;rw[h.tyM ho];unfold CD;refine lC λi d=>?_;have d:=kq8.1 d;rw[uf _ d];unfold xT;by_cases b:(flds ws a)[i]? = some 3
 .by_cases e:wd ws (a+2+i)=0
  .simp only[e,ne_eq,not_true_eq_false,and_false,if_false]
  have c:=(h.mref ho i).2 b;simp only[b,e,c,ne_eq,not_false_eq_true,and_self,if_true,kkb,Nat.succ_ne_zero]
 have c:¬ qi (mdl ws t).types (obM ws (objs (aa ws)) a).typ i=true:=λf=>b ((h.mref ho i).1 f);simp only[b,c,false_and,if_false,kzp]
end
section
variable {w z:List Nat} {t:Nat}
noncomputable def gM (w z:List Nat) (n:Nat):Nat:=l8 (objs (aa z)) ((ed (cpM w) (((objs (aa w))[n]?.getD default).at_)).getD 0)
def SM (w:List Nat) (n:Nat):Prop:=∃m:Nat,Rch w m/\n=l8 (objs (aa w)) (m:Int)
theorem CpR.gm(R:CpR w z t)(hr:Rch w m):∃a:Nat,ed (cpM w) (m:Int)=some (a:Int)/\cb z a/\gM w z (l8 (objs (aa w)) (m:Int))=l8 (objs (aa z)) (a:Int):=by obtain⟨a,b,h2,h3⟩:=R.V.to R.L.rc hr;refine⟨a,b,R.obj.2 ⟨m,hr,b⟩,?_⟩;unfold gM;rw[(jJ R.L.hp (R.L.rch hr)).2,kq2,ab,b];rfl
theorem CpR.ref_(R:CpR w z t)(hr:Rch w m)(hf:(flds w m)[i]? = some 3)(hv:wd w (m+2+i)≠0):Rch w (wd w (m+2+i)):=by have b:=R.L.rch hr;have a:=R.L.ref b hf hv;have:=Rch.ref m i hr (yk R.L.hp b).2 hf hv;have h1:=a.2.2.1;have h2:=(ac _).1 R.L.size;rwa [kxb (by omega)] at this
theorem CpR.inj_(R:CpR w z t):∀a b,SM w a->SM w b->gM w z a=gM w z b->a=b:=by rintro a b ⟨m,e,rfl⟩ ⟨m',c,rfl⟩ h;obtain⟨u,d,g,f⟩:=R.gm e;obtain⟨v,v1,v2,v3⟩:=R.gm c;rw[f,v3] at h;obtain rfl:=Ib R.hp.1 g v2 h;rw[R.V.inj d v1]
theorem CpR.adjIso(R:CpR w z t):(∀n,SM w n->∀k∈oZ (mdl w t) n,SM w k)/\∀n,SM w n->oZ (mdl z t) (gM w z n)=(oZ (mdl w t) n).map (gM w z):=by
 constructor
 .rintro n ⟨m,b,rfl⟩ k e;rw[R.L.adj_ (R.L.rch b)] at e;obtain⟨i,-,d⟩:=kjm.1 e;split at d
  .rename_i h;injection d with d;exact⟨_,R.ref_ b h.1 h.2,d.symm⟩
  cases d
 rintro n ⟨m,b,rfl⟩;obtain⟨a,p,g,l⟩:=R.gm b;rw[l,R.L.adj_ (R.L.rch b),R.lay.adj_ g];obtain⟨-,-,-,-,r,-,-,f,-⟩:=R.at_ p;rw[r,List.map_filterMap];refine lC λi d=>?_;by_cases c:(flds w m)[i]? = some 3
 .rcases f i c with⟨v1,v2⟩|⟨v1,v2⟩
  .rw[if_neg (by simp[v2]),if_neg (by simp[v1])];rfl
  obtain⟨u,j,q,o⟩:=R.gm (R.ref_ b c (by omega));rw[j] at v2;injection v2 with v2;have h128:=q.1;rw[if_pos ⟨c,by omega⟩,if_pos ⟨c,by omega⟩,kzk,o,<-v2]
 rw[if_neg (λh=>c h.1),if_neg (λh=>c h.1)];rfl
theorem Hm{m m':Md}{F:Nat}{g:Nat->Nat}{S:Nat->Prop}(hcl:∀n,S n->∀k∈oZ m n,S k)(hadj:∀n,S n->oZ m' (g n)=(oZ m n).map g)(hinj:∀a b,S a->S b->g a=g b->a=b)(f f':Nat->Sl):∀(l:List Nat),(∀i∈l,(f' i).used=(f i).used/\((f i).used=true->S (f i).at_.toNat/\(f' i).at_.toNat=g (f i).at_.toNat))->∀o,(∀x∈o,S x) ->
 jA m' F (l.map f') (o.map g)=(jA m F (l.map f) o).map g/\∀x∈jA m F (l.map f) o,S x:=by
 intro l
 induction l with
 | nil=>intro _ o d;exact⟨rfl,d⟩
 | cons i l ih =>
  intro h o d;obtain⟨p,q⟩:=h i (by simp);have e:=λj u=>h j (kzj _ u);unfold jA at ih |-;simp only[kxk,kkg];rw[p];by_cases c:(f i).used=true
  .rw[if_pos c,if_pos c];obtain⟨r,s⟩:=q c;obtain⟨t,v⟩:=Ca hcl hadj hinj F o _ d r;rw[s,t];exact ih e _ v
  rw[if_neg c,if_neg c];exact ih e o d
theorem CpR.canon(R:CpR w z t):rR (mdl z t)=rR (mdl w t):=by
 obtain⟨N,s⟩:=R.adjIso;have d:=R.inj_;have v:∀i,i<16->(slM (objs (aa z)) (slAt z i)).used=(slM (objs (aa w)) (slAt w i)).used/\((slM (objs (aa w)) (slAt w i)).used=true->SM w (slM (objs (aa w)) (slAt w i)).at_.toNat/\(slM (objs (aa z)) (slAt z i)).at_.toNat=gM w z (slM (objs (aa w)) (slAt w i)).at_.toNat)/\(slAt z i).gen=(slAt w i).gen/\((slAt w i).used=false->slAt z i=slAt w i):=by
  intro i b;obtain⟨C,y,T,r⟩:=R.slot b;unfold slM;rw[y];cases c:(slAt w i).used with
  | false =>simp only[kzp,if_false];refine⟨by rw[y],λh=>?_,C,λ_=>r c⟩;rw[c] at h;cases h
  | true =>rw[if_pos rfl,if_pos rfl];dsimp only;refine⟨rfl,λ_=>?_,C,λh=>(by cases h)⟩;have P:=Rch.slot (ws:=w) i b c;have Q:(((slAt w i).at_.toNat:Nat):Int)=(slAt w i).at_:=kx2 (dt (wd w (112+i))).2.2.1;obtain⟨a,M,G⟩:=T c;obtain⟨u,j,S,E⟩:=R.gm P;rw[Q] at j E;rw[M] at j;injection j with j;rw[kqk,kqk,G,E,j];exact⟨⟨_,P,by rw[Q]⟩,rfl⟩
 have k:d9 (mdl z t)=(d9 (mdl w t)).map (gM w z)/\∀x∈d9 (mdl w t),SM w x:=by
  have:=Hm (F:=2048) N s d (λi=>slM (objs (aa w)) (slAt w i)) (λi=>slM (objs (aa z)) (slAt z i)) (List.range 16) (λi b=>by
   obtain⟨H,I,-⟩:=v i (kq8.1 b);exact⟨H,I⟩) [] (λx Y=>(by cases Y))
  exact this
 obtain⟨ho,A⟩:=k;have J:eB z t 8=eB w t 8:=by unfold eB;refine kzm λi b=>?_;have:=kq8.1 b;rw[R.D.low _ (by omega),R.D.low _ (by omega)]
 unfold rR;rw[ho];have V:(mdl z t).types=(mdl w t).types:=J;rw[V];obtain⟨U,O⟩:=xq (d9 (mdl w t));rw[O] at A |-;congr 1
 .unfold mdl;dsimp only;rw[kvb,kvb];refine kzm λi b=>?_;obtain⟨H,I,h3,h4⟩:=v i (kq8.1 b);show lS _ (slM _ (slAt z i))=lS _ (slM _ (slAt w i));unfold lS;rw[H];by_cases c:(slM (objs (aa w)) (slAt w i)).used=true
  .rw[if_pos c,if_pos c];obtain⟨q1,W⟩:=I c;rw[W,Ax d q1 A];have g:(slAt w i).used=true:=by
    unfold slM at c;split at c
    .assumption
    exact c
   obtain⟨-,y,-,-⟩:=R.slot (kq8.1 b);unfold slM;rw[y,g,if_pos rfl,if_pos rfl,h3]
  rw[if_neg c,if_neg c];have g:(slAt w i).used=false:=by
   cases hq:(slAt w i).used with
   | false=>rfl
   | true =>exfalso;apply c;unfold slM;rw[hq,if_pos rfl]
  rw[h4 g];unfold slM;rw[g];rfl
 rw[kvb];refine kzm λn hn=>?_;obtain⟨m,B,rfl⟩:=A n hn;obtain⟨a,M,G,a3⟩:=R.gm B;show kW _ _ ((mdl z t).objs[gM w z _]?.getD default)=kW _ _ ((mdl w t).objs[_]?.getD default);rw[a3,rZ R.hp.1 G,rZ R.L.hp (R.L.rch B),kq2,kq2];obtain⟨p,C,y,T,r,g5,g6,Z,X⟩:=R.at_ M;have q:(obM z (objs (aa z)) a).typ=(obM w (objs (aa w)) m).typ:=by unfold obM;rw[C]
 have l:(obM z (objs (aa z)) a).fl.length=(obM w (objs (aa w)) m).fl.length:=by unfold obM;rw[r];simp
 have K:(obM w (objs (aa w)) m).fl.length=(flds w m).length:=by unfold obM;simp
 unfold kW;rw[q,l];congr 1;refine kzm λi b=>?_;have b:=kq8.1 b;rw[K] at b;rw[uf _ (by rw[r];exact b),uf _ b];unfold xT;rw[r];have e:=R.L.mref p i;by_cases f:(flds w m)[i]? = some 3
 .have e:=e.2 f;rcases Z i f with⟨v1,v2⟩|⟨v1,v2⟩
  .rw[v1,v2];simp
  obtain⟨u,j,S,E⟩:=R.gm (R.ref_ B f (by omega));rw[j] at v2;injection v2 with v2;have h128:=S.1;rw[if_pos (show (flds w m)[i]? = some 3/\wd z (a+2+i)≠0 from ⟨f,by omega⟩),if_pos (show (flds w m)[i]? = some 3/\wd w (m+2+i)≠0 from ⟨f,by omega⟩),if_pos ⟨e,by omega⟩,if_pos ⟨e,by omega⟩,kkb,kkb,<-v2,<-E,Ax d ⟨_,R.ref_ B f (by omega),rfl⟩ A]
 have o:¬ qi (mdl w t).types (obM w (objs (aa w)) m).typ i=true:=λh=>f (e.1 h);simp only[f,o,false_and,if_false];refine X i ?_ f;have:=(R.L.obj p).2.2.2.2.1;rw[this];unfold aP;omega
end
structure Oj where
 typ:Int
 A:Option Addr
 c:Nat
 l:List Nat
variable {L:List Oj}
def Oj.cells (x:Oj):List Value:=[.int .i64 x.typ,.slice x.A x.l.length x.c]
def Oj.ob (x:Oj):Ob:=⟨x.typ,x.l⟩
theorem Oj.len(x:Oj):x.cells.length=2:=rfl
def RdO (w:World) (B:Nat) (A:Option Addr) (L:List Oj):Prop:=Rd w B A (L.flatMap Oj.cells)/\∀x∈L,RdW w B x.A x.l
theorem RdO.up{B':Nat}(h:RdO w B A L)(hb:Below B w w')(hB:B<=B'):RdO w' B' A L:=⟨h.1.up hb hB,λx a=>(h.2 x a).up hb hB⟩
theorem RdO.at_(h:RdO w B A L)(hk:k<L.length):
 ∃b a,A=some ⟨b,a,none⟩/\b<B/\w.cell? ⟨b,a+k*2,none⟩=some (.int .i64 L[k].typ)/\w.cell? ⟨b,a+k*2+1,none⟩=some (.slice L[k].A L[k].l.length L[k].c):=by obtain⟨b,a,e,f,d⟩:=Rd.at_flat Oj.len h.1 (by omega) hk;exact⟨b,a,e,f,d 0 (by omega),d 1 (by omega)⟩
def qh (w:World) (v:Value) (m:Md):Prop:=∃(TA:Option Addr) (tc:Nat) (L:List Ty) (OA:Option Addr) (oc:Nat) (O:List Oj) (SA:Option Addr) (sc:Nat),
 v=.agg #[.slice TA L.length tc,.slice OA O.length oc,.slice SA m.slots.length sc]/\RdL w w.heap.size TA L/\RdO w w.heap.size OA O/\RdS w w.heap.size SA m.slots/\L.map Ty.l=m.types/\O.map Oj.ob=m.objs
theorem qh.up{v:Value}{m:Md}(h:qh w v m)(hb:Below w.heap.size w w'):qh w' v m:=by obtain⟨d,n,L,i,k,O,j,l,e,a,c,g,b,f⟩:=h;exact⟨d,n,L,i,k,O,j,l,e,a.up hb hb.size,c.up hb hb.size,g.up hb hb.size,b,f⟩
def strB (l:List Nat):ByteArray:=strOfNums (l.map λx:Nat=>(x:Int))
theorem Dt:strB []=ByteArray.empty:=by unfold strB strOfNums;rfl
theorem kS(l:List Nat):l.flatMap aJ=l.map λx:Nat=>Value.int .u8 (x:Int):=by
 induction l with
 | nil=>rfl
 | cons x l ih=>rw[kzy,ih];rfl
theorem DI{l:List Nat}{c:Nat}(h:RdY w B A l)(hn:l.length=n):(convert 113 9 (.slice A n c)).run prog w=.ok (.string (strB l)) w:=by
 subst hn;by_cases f:l=[]
 .subst f;rw[Dt];show (convert 113 9 (.slice A 0 c)).run prog w=_;cases A with
  | none=>exact run_convert_bytes_nil w _ 5 underlying113 underlying5 0 c _ underlying9
  | some a =>rw[run_convert_bytes_string w _ _ _ _ _ _ underlying113 underlying5 underlying9];exact run_bytesToString (P:=prog) w a 0 c [] (by simp[loadCells,loadCellsFrom])
 obtain⟨b,d,rfl,-,j⟩:=h (by
  rw[kS]
  simpa using f)
 refine run_convert_bytes_arg w _ 5 underlying113 underlying5 b d l.length c (l.map λx:Nat=>(x:Int)) (by simp) (λi e=>?_) _ underlying9;have g:=j i (by rw[kS];simpa using e);rw[g];simp[kS,List.getD,e]
open Lib (hid)
open Go.RowKit Go.Maps
theorem sl_one:∀x:Sl,∀u∈x.cells,u.oneCell'=true:=λx u a=>by unfold Sl.cells at a;simp only[kq0,kzu,or_false] at a;rcases a with rfl|rfl|rfl<;>rfl
theorem Dl(b:Nat):∀u∈aJ b,u.oneCell'=true:=by intro u a;simp only[aJ,kq0,kzu,or_false] at a;subst a;rfl
theorem uO(b:Nat):(ai b).length=1:=rfl
theorem ug(A:Option Addr)(l:List Nat)(c n:Nat)(w:World)(hn:l.length=n)(hm:n<=1000000)(hr:RdW w w.heap.size A l):
 Calls prog 70 #[.slice A n c] w λe w'=>(∃A' c',e=.returned (.slice A' n c')/\w'.ownsRow w.heap.size 53 1 (.slice A' n c') n (l.flatMap ai))/\Below w.heap.size w w':=by
 have E:=hid hr;have p:=hid hn;have t:=hid (bE ai 1 uO l);have f:=λ(W:World)=>Lib.run_eql_slice_nil (P:=prog) (w:=W) 22 53 A n c 0 0 underlying22;obtain⟨C,y,g,k,j⟩:=kzt me;have G:=hid y;have s:=hid g;have q:=hid k;have r:=hid j;clear y g k j;cases A with
 | none =>
  have B:l=[]:=by
   cases l with
   | nil=>rfl
   | cons x l =>
    obtain⟨b,off,e,-⟩:=hr (by
     intro h;have v:=congrArg List.length h;rw[bE ai 1 uO] at v;simp at v)
    cases e
  have z:=hid B;simp only[kvk] at f;clear hr hn B;go_enter func70,ntmps70;go_wp2;go_ret;exact⟨⟨none,0,by rw[<-p.out,z.out];rfl,by rw[<-p.out,z.out];exact kq3 _ _ _ _⟩,kql _ _⟩
 | some a =>simp only[kk3] at f;clear hr hn;go_enter func70,ntmps70;go_wp2_with (at_builtin;refine aS _ (by rfl) _ _ 22 rfl w.heap.size 53 C _ 1 8 underlying22 G.out s.out q.out r.out rfl (by decide) (.slice (some ⟨w.heap.size,0,none⟩) 0 0) 0 [] (by rfl) (dE w _ _ _ (kqg _)) w.heap.size (some a) n _ (l.flatMap ai) (by rfl) (by rw[t.out,p.out]) (Rd.alloc E.out (kqg _) _) (cG l6 _) (by unfold maxLen;omega) (by omega) (by simp) ?_;intro v1 wa d o;have i:=bv ((kql w.heap.size w).alloc (kqg _) _) (by simp) (dE w w.heap.size 53 1 (kqg _)) o;simp only[kxm,kz5] at d;obtain⟨F,D,rfl⟩:=aE d;have m:=hid d;have u:=hid i;clear d i o);go_ret;exact⟨⟨F,D,rfl,m.out⟩,u.out⟩
theorem EJ(A:Option Addr)(l:List Sl)(c n:Nat)(w:World)(hn:l.length=n)(hm:n<=1000000)(hr:RdS w w.heap.size A l):
 Calls prog 121 #[.slice A n c] w λe w'=>(∃A' c',e=.returned (.slice A' n c')/\w'.ownsRow w.heap.size 52 3 (.slice A' n c') n (l.flatMap Sl.cells))/\Below w.heap.size w w':=by
 have E:=hid hr;have p:=hid hn;have t:=hid (bE Sl.cells 3 Sl.len l);have f:=λ(W:World)=>Lib.run_eql_slice_nil (P:=prog) (w:=W) 45 52 A n c 0 0 underlying45;obtain⟨C,y,g,k,j⟩:=kzt uD;have G:=hid y;have s:=hid g;have q:=hid k;have r:=hid j;clear y g k j;cases A with
 | none =>
  have B:l=[]:=by
   cases l with
   | nil=>rfl
   | cons x l =>
    obtain⟨b,off,e,-⟩:=hr (by
     intro h;have v:=congrArg List.length h;rw[bE Sl.cells 3 Sl.len] at v;simp at v)
    cases e
  have z:=hid B;simp only[kvk] at f;clear hr hn B;go_enter func121,ntmps121;go_wp2;go_ret;exact⟨⟨none,0,by rw[<-p.out,z.out];rfl,by rw[<-p.out,z.out];exact kq3 _ _ _ _⟩,kql _ _⟩
 | some a =>simp only[kk3] at f;clear hr hn;go_enter func121,ntmps121;go_wp2_with (at_builtin;refine aS _ (by rfl) _ _ 45 rfl w.heap.size 52 C _ 3 24 underlying45 G.out s.out q.out r.out rfl (by decide) (.slice (some ⟨w.heap.size,0,none⟩) 0 0) 0 [] (by rfl) (dE w _ _ _ (kqg _)) w.heap.size (some a) n _ (l.flatMap Sl.cells) (by rfl) (by rw[t.out,p.out]) (Rd.alloc E.out (kqg _) _) (cG sl_one _) (by unfold maxLen;omega) (by omega) (by simp) ?_;intro v1 wa d o;have i:=bv ((kql w.heap.size w).alloc (kqg _) _) (by simp) (dE w w.heap.size 52 3 (kqg _)) o;simp only[kxm,kz5] at d;obtain⟨F,D,rfl⟩:=aE d;have m:=hid d;have u:=hid i;clear d i o);go_ret;exact⟨⟨F,D,rfl,m.out⟩,u.out⟩
theorem Dg(A:Option Addr)(l:List Nat)(c n:Nat)(w:World)(hn:l.length=n)(hm:n<=1000000)(hr:RdY w w.heap.size A l):
 Calls prog 122 #[.slice A n c] w λe w'=>(∃A' c',e=.returned (.slice A' n c')/\w'.ownsRow w.heap.size 5 1 (.slice A' n c') n (l.flatMap aJ))/\Below w.heap.size w w':=by
 have E:=hid hr;have p:=hid hn;have t:=hid (bE aJ 1 gU l);have f:=λ(W:World)=>Lib.run_eql_slice_nil (P:=prog) (w:=W) 113 5 A n c 0 0 underlying113;obtain⟨C,y,g,k,j⟩:=kzt jl;have G:=hid y;have s:=hid g;have q:=hid k;have r:=hid j;clear y g k j;cases A with
 | none =>
  have B:l=[]:=by
   cases l with
   | nil=>rfl
   | cons x l =>
    obtain⟨b,off,e,-⟩:=hr (by
     intro h;have v:=congrArg List.length h;rw[bE aJ 1 gU] at v;simp at v)
    cases e
  have z:=hid B;simp only[kvk] at f;clear hr hn B;go_enter func122,ntmps122;go_wp2;go_ret;exact⟨⟨none,0,by rw[<-p.out,z.out];rfl,by rw[<-p.out,z.out];exact kq3 _ _ _ _⟩,kql _ _⟩
 | some a =>simp only[kk3] at f;clear hr hn;go_enter func122,ntmps122;go_wp2_with (at_builtin;refine aS _ (by rfl) _ _ 113 rfl w.heap.size 5 C _ 1 1 underlying113 G.out s.out q.out r.out rfl (by decide) (.slice (some ⟨w.heap.size,0,none⟩) 0 0) 0 [] (by rfl) (dE w _ _ _ (kqg _)) w.heap.size (some a) n _ (l.flatMap aJ) (by rfl) (by rw[t.out,p.out]) (Rd.alloc E.out (kqg _) _) (cG Dl _) (by unfold maxLen;omega) (by omega) (by simp) ?_;intro v1 wa d o;have i:=bv ((kql w.heap.size w).alloc (kqg _) _) (by simp) (dE w w.heap.size 5 1 (kqg _)) o;simp only[kxm,kz5] at d;obtain⟨F,D,rfl⟩:=aE d;have m:=hid d;have u:=hid i;clear d i o);go_ret;exact⟨⟨F,D,rfl,m.out⟩,u.out⟩
def ry (ad:List Int):Nat->DataW Unit
 | 0=>.map []
 | k+1=>(ry ad k).put (.int .i64 (ad[k]?.getD 0)) (.lit (.int .i64 (k:Int)))
theorem qq(ad:List Int)(k:Nat):Tidy (ry ad k):=by
 induction k with
 | zero=>exact tidy_empty
 | succ k ih=>exact ih.put (by trivial) _
theorem CI(hp:ad.Pairwise (· < ·))(hi:i<ad.length)(hk:k<=i):has (ry ad k) (.int .i64 ad[i])=false:=by
 induction k with
 | zero=>rfl
 | succ k ih =>
  have a:k<ad.length:=by omega
  simp only[ry];rw[has_put_other (by
   intro h;injection h with _ h;rw[kqj a,kq2] at h;rw[kzf] at hp;have:=hp k i a hi (by omega);omega)]
  exact ih (by omega)
theorem yv(hp:ad.Pairwise (· < ·)):∀ {k:Nat},k<=ad.length->Maps.size (ry ad k)=k:=by
 intro k
 induction k with
 | zero=>intro _;rfl
 | succ k ih =>
  intro hk;have a:k<ad.length:=by omega
  simp only[ry];rw[size_put (qq ad k),kqj a,kq2,CI hp a (kqg _),ih (by omega)];rfl
theorem Fu(hp:ad.Pairwise (· < ·))(hi:i<ad.length)(hik:i<k)(hk:k<=ad.length)(z:DataW Unit):(ry ad k).atKey (.int .i64 ad[i]) z=.lit (.int .i64 (i:Int)):=by
 induction k with
 | zero=>omega
 | succ k ih =>
  have a:k<ad.length:=by omega
  simp only[ry];rw[kqj a,kq2];rcases kq9 i k with h|h
  .rw[atKey_put_other (by
    intro b;injection b with _ b;rw[kzf] at hp;have:=hp i k hi a h;omega)]
   exact ih h (by omega)
  have:i=k:=by omega
  subst this;exact atKey_put_same (qq ad i).isMap (by trivial) _ _
theorem Hg(w:World):(zeroValue 3).run prog w=.ok (.int .i64 0) w:=by kernel_rfl
theorem Es(hp:ad.Pairwise (· < ·))(h:W.ownsMap prog 3 (plainElem prog 3) b q (ry ad ad.length))(hi:i<ad.length)(hx:0<=ad[i]/\ad[i]<=1000000):(Instr.lookup 132 (.map (some b)) (.int .i64 ad[i]) false).run prog W=.ok (.int .i64 (i:Int)) W:=by
 have f:(Lit.int .i64 ad[i]).wf=true:=by simp[Lit.wf,IntKind.min,IntKind.max,IntKind.signed,IntKind.bits];omega
 obtain⟨c,d,a,-⟩:=h.lookup_int rp underlying132 underlying3 (Hg W) (keyOf_int_mk (P:=prog) underlying3 f);rw[Fu hp hi hi (kqg _)] at a;have e:DataW.lit (H:=Unit) (.int .i64 (i:Int))=.lit (.int .i64 c):=a;clear a;simp only[DataW.lit.injEq,Lit.int.injEq,true_and] at e;rw[e];exact d
section
variable {ws:List Nat} {t:Nat}
theorem Lay.objK(h:Lay ws t)(hk:k<(aa ws).length)(h1:(aa ws)[k].kind=1):∃a T:Nat,(aa ws)[k]=bkAt ws a/\cb ws a/\(bkAt ws a).typ=(T:Int)/\T<t/\(eB ws t 8)[T]? = some (flds ws a)/\a+2+(flds ws a).length<=ws.length/\(flds ws a).length<=8/\(obM ws (objs (aa ws)) a).typ=(T:Int):=by
 obtain⟨a,e,b⟩:=ju h.hp hk h1;obtain⟨-,-,g,f,i,-⟩:=h.obj b;have c:(ah (wd ws a)).typ=(((ah (wd ws a)).typ.toNat:Nat):Int):=by unfold ah;dsimp only;omega
 have d:=aC b.2.2.2.1;rw[i] at d;unfold aP at d;exact⟨a,(ah (wd ws a)).typ.toNat,e,b,c,g,f,by omega,pr ws a,c⟩
def adO (ws:List Nat):List Int:=(objs (aa ws)).map Bk.at_
theorem zn(h0:af ws=0):(adO ws).Pairwise (· < ·):=by unfold adO;rw[kxt];exact mj h0
theorem tR(h0:af ws=0)(ho:cb ws a)(h:W.ownsMap prog 3 (plainElem prog 3) b q (ry (adO ws) (objs (aa ws)).length)):l8 (objs (aa ws)) (a:Int)<(objs (aa ws)).length/\(Instr.lookup 132 (.map (some b)) (.int .i64 (a:Int)) false).run prog W=.ok (.int .i64 ((l8 (objs (aa ws)) (a:Int):Nat):Int)) W:=by
 obtain⟨f,g⟩:=jJ h0 ho;have i:(adO ws).length=(objs (aa ws)).length:=by unfold adO;rw[kqs]
 have c:l8 (objs (aa ws)) (a:Int)<(adO ws).length:=by omega
 have d:(adO ws)[l8 (objs (aa ws)) (a:Int)]=(a:Int):=by
  have e:(adO ws)[l8 (objs (aa ws)) (a:Int)]? = some (a:Int):=by unfold adO;rw[kzh,g,kzk,ab]
  rw[kqj c] at e;injection e
 rw[<-i] at h;have hb:=(ac _).1 (ao h0).1;have h3:=ho.2.2.1;have:=Es (zn h0) h c (by rw[d];omega);rw[d] at this;exact⟨f,this⟩
def fdP (ws:List Nat) (O:List Bk) (F:List Nat) (a k:Nat):List Nat:=(List.range F.length).map λj=>if j<k then xT ws O F a j else wd ws (a+2+j)
theorem sV(ws:List Nat)(O:List Bk)(F:List Nat)(a k:Nat):(fdP ws O F a k).length=F.length:=by simp[fdP]
theorem zT(h:a+2+F.length<=ws.length):(ws.drop (a+2)).take F.length=fdP ws O F a 0:=by
 apply kz7;intro i;unfold fdP;rw[kzh];by_cases b:i<F.length
 .rw[List.getElem?_take_of_lt b,kx8,kxq b];simp[wd,show a+2+i<ws.length by omega]
 rw[kzd (by rw[kq6];omega),kzd (by simp;omega)];rfl
theorem Gf(ws:List Nat)(O:List Bk)(a:Nat):fdP ws O (flds ws a) a (flds ws a).length=(obM ws O a).fl:=by unfold fdP obM;dsimp only;refine kzm λj b=>?_;rw[if_pos (kq8.1 b)]
theorem E8(hk:k<F.length):∃h:k<(fdP ws O F a k).length,(fdP ws O F a k)[k]=wd ws (a+2+k):=by refine⟨by rw[sV];exact hk,?_⟩;unfold fdP;rw[kj9,kk4,if_neg (by omega)]
theorem yO(hk:k<F.length):(fdP ws O F a k).set k (xT ws O F a k)=fdP ws O F a (k+1):=by
 apply kz7;intro i;rw[kz4,sV];unfold fdP;rw[kzh,kzh];by_cases b:k=i
 .subst b;rw[if_pos rfl,if_pos hk,kxq hk,kzk,if_pos (by omega)]
 rw[if_neg b];cases e:(List.range F.length)[i]? with
 | none=>rfl
 | some j =>
  obtain⟨h1,d⟩:=kq7.1 e;rw[kk4] at d;rw[kzk,kzk];congr 1;by_cases c:j<k
  .rw[if_pos c,if_pos (by omega)]
  rw[if_neg c,if_neg (by omega)]
theorem C1(hk:k<F.length)(h:xT ws O F a k=wd ws (a+2+k)):fdP ws O F a (k+1)=fdP ws O F a k:=by
 rw[<-yO hk,h];obtain⟨b,c⟩:=E8 (ws:=ws) (O:=O) (F:=F) (a:=a) hk;rw[<-c];apply kz7;intro i;rw[kz4];split
 .rename_i e;subst e;simp[b]
 rfl
theorem Lay.fld(h:Lay ws t)(ho:cb ws a)(hi:(flds ws a)[i]? = some 3)(hv:wd ws (a+2+i)≠0):cb ws (wd ws (a+2+i))/\xT ws (objs (aa ws)) (flds ws a) a i=l8 (objs (aa ws)) (wd ws (a+2+i):Int)+1:=by refine⟨h.ref ho hi hv,?_⟩;unfold xT;rw[if_pos ⟨hi,hv⟩]
theorem EN(h:¬ ((flds ws a)[i]? = some 3/\wd ws (a+2+i)≠0)):xT ws (objs (aa ws)) (flds ws a) a i=wd ws (a+2+i):=by unfold xT;rw[if_neg h]
def slP (ws:List Nat) (k:Nat):List Sl:=(List.range 16).map λi=>if i<k then slM (objs (aa ws)) (slAt ws i) else slAt ws i
theorem pS(ws:List Nat)(k:Nat):(slP ws k).length=16:=by simp[slP]
theorem AX(ws:List Nat):slP ws 0=slL ws:=by unfold slP slL;exact kzm λi _=>by rw[if_neg (by omega)]
theorem Bf(ws:List Nat)(t:Nat):slP ws 16=(mdl ws t).slots:=by unfold slP mdl;dsimp only;exact kzm λi a=>by rw[if_pos (kq8.1 a)]
theorem BG(hk:k<16):∃h:k<(slP ws k).length,(slP ws k)[k]=slAt ws k:=by refine⟨by rw[pS];exact hk,?_⟩;unfold slP;rw[kj9,kk4,if_neg (by omega)]
theorem yi(hk:k<16):(slP ws k).set k (slM (objs (aa ws)) (slAt ws k))=slP ws (k+1):=by
 apply kz7;intro i;rw[kz4,pS];unfold slP;rw[kzh,kzh];by_cases a:k=i
 .subst a;rw[if_pos rfl,if_pos hk,kxq hk,kzk,if_pos (by omega)]
 rw[if_neg a];cases d:(List.range 16)[i]? with
 | none=>rfl
 | some j =>
  obtain⟨h1,c⟩:=kq7.1 d;rw[kk4] at c;rw[kzk,kzk];congr 1;by_cases b:j<k
  .rw[if_pos b,if_pos (by omega)]
  rw[if_neg b,if_neg (by omega)]
theorem EB(hk:k<16)(hu:(slAt ws k).used=false):slP ws (k+1)=slP ws k:=by
 have e:slM (objs (aa ws)) (slAt ws k)=slAt ws k:=by unfold slM;rw[hu];rfl
 rw[<-yi hk,e];obtain⟨a,b⟩:=BG (ws:=ws) hk;rw[<-b];apply kz7;intro i;rw[kz4];split
 .rename_i e2;subst e2;simp[a]
 rfl
theorem ym(hk:k<16){j:Int}(hm:slM (objs (aa ws)) (slAt ws k)=⟨(slAt ws k).gen,true,j⟩)(hu:(slAt ws k).used=true):(((slP ws k).flatMap Sl.cells).toArray).setIfInBounds (k*3+2) (.int .i64 j)=((slP ws (k+1)).flatMap Sl.cells).toArray:=by rw[kqa,<-yi hk,hm];congr 1;refine (eh Sl.cells 3 Sl.len (slP ws k) k 2 (by decide) _ (.int .i64 j) (λy a=>?_)).symm;obtain⟨b,c⟩:=BG (ws:=ws) hk;rw[kqj b,c] at a;injection a with a;subst a;unfold Sl.cells;rw[hu];rfl
theorem Lay.slotM(h:Lay ws t)(hi:i<16)(hu:(slAt ws i).used=true):∃a:Nat,(slAt ws i).at_=(a:Int)/\cb ws a/\slM (objs (aa ws)) (slAt ws i)=⟨(slAt ws i).gen,true,((l8 (objs (aa ws)) (a:Int):Nat):Int)⟩:=by have c:=h.slot hi hu;have b:(((slAt ws i).at_.toNat:Nat):Int)=(slAt ws i).at_:=kx2 (dt (wd ws (112+i))).2.2.1;refine⟨_,b.symm,c,?_⟩;unfold slM;rw[if_pos hu,b,<-hu]
theorem slM_no(hu:(slAt ws i).used=false):slM (objs (aa ws)) (slAt ws i)=slAt ws i:=by unfold slM;rw[hu];rfl
end
theorem Er(A1 A2:Option Addr)(L1 L2:List Ty)(n c1 c2:Nat)(w:World)(h1:L1.length=n)(hm:n<=1000000)(he:L1.map Ty.l=L2.map Ty.l)(ha:RdL w w.heap.size A1 L1)(hb:RdL w w.heap.size A2 L2):
 Calls prog 77 #[.slice A1 n c1,.slice A2 n c2] w λe w'=>e=.returned (.bool true)/\Below w.heap.size w w':=by
 have U:L2.length=n:=by have:=congrArg List.length he;rw[kqs,kqs] at this;omega
 have O:=hid h1;have P:=hid U;have HE:Hid (∀k (Q:k<L1.length) (F:k<L2.length),L1[k].l=L2[k].l):=hid λk Q F=>by
  have:=congrArg (λl=>l[k]?) he
  simpa [Q,F] using this
 have V:=hid ha;have R:=hid hb;clear ha hb he h1 U;go_enter func77,ntmps77;go_wp2_with fail;go_loopw [5] (λi wr=>∃k:Nat,k<=n/\i=.int .i64 k/\Below w.heap.size w wr) (λi _=>n-(intOf i).toNat)
 case atStart=>exact⟨0,kqy _,rfl,kql _ _⟩
 obtain⟨k,Q,rfl,m⟩:=hrel;by_cases q:k<n
 .have u:k<L1.length:=by rw[O.out];exact q
  have r:k<L2.length:=by rw[P.out];exact q
  obtain⟨K,M,rfl,hg1,H⟩:=fE (V.out.1.below m) u;obtain⟨N,J,rfl,hg2,E⟩:=fE (R.out.1.below m) r;have f:=(V.out.2 _ (kqm u)).below m;have g:=(R.out.2 _ (kqm r)).below m;have j:=HE.out k u r;obtain⟨x,T⟩:=xq (L1[k]);obtain⟨y,W⟩:=xq (L2[k]);rw[T] at H f j;rw[W] at E g j;obtain⟨B,I,o⟩:=x;obtain⟨C,L,yl⟩:=y;dsimp only at H E f g j;subst j;obtain⟨d,p⟩:=xq o.length;rw[p] at H E;have b:Hid (∀(X:World) (A:Option Addr) (c:Nat),RdY X w.heap.size A o->(convert 113 9 (.slice A d c)).run prog X=.ok (.string (strB o)) X):=hid λX A c h=>DI h p;obtain⟨s,Z⟩:=xq (strB o);rw[Z] at b;have hk1:(k:Int)<(n:Int):=by omega
  have hk0:(0:Int)<=(k:Int):=by omega
  have v:=hid m.drew;have G:=hid (show (wr.drew.cell? ⟨K,M+k,none⟩=some (.slice B d I)/\wr.drew.cell? ⟨N,J+k,none⟩=some (.slice C d L))/\RdY wr.drew w.heap.size B o/\RdY wr.drew w.heap.size C o from ⟨⟨H,E⟩,f,g⟩);clear T W p Z H E f g m;go_wp2_with fail;refine kz6 (S:=λX:World=>(X.cell? ⟨K,M+k,none⟩=some (.slice B d I)/\X.cell? ⟨N,J+k,none⟩=some (.slice C d L))/\RdY X w.heap.size B o/\RdY X w.heap.size C o) (by kernel_rfl) G.out (λz=>?_);show wpAnyH _ _ _ _ _ 11 #[false,false,false,false,false,false,false,false,false,false,false] _ _;refine tj 0 (.slice (some ⟨K,M,none⟩) n c1) ?_;dsimp only[Act.put,kqe,kqc,kqb,kqa,kqf,kqd];refine tj 1 (.int .i64 (k:Int)) ?_;dsimp only[Act.put,kqe,kqc,kqb,kqa,kqf,kqd];refine tj 2 (.pointer (some ⟨K,M+k,none⟩)) ?_;dsimp only[Act.put,kqe,kqc,kqb,kqa,kqf,kqd];refine tk 3 (.slice B d I) ?_ ?_
  .intro X a;have t:=a.1.1;(try dsimp only at a);go_simp
  dsimp only[Act.put,kqe,kqc,kqb,kqa,kqf,kqd];refine tk 4 (.string s) ?_ ?_
  .intro X a;have t:=b.out X B I a.2.1;(try dsimp only at a);go_simp
  dsimp only[Act.put,kqe,kqc,kqb,kqa,kqf,kqd];refine tj 5 (.slice (some ⟨N,J,none⟩) n c2) ?_;dsimp only[Act.put,kqe,kqc,kqb,kqa,kqf,kqd];refine tj 6 (.int .i64 (k:Int)) ?_;dsimp only[Act.put,kqe,kqc,kqb,kqa,kqf,kqd];refine tj 7 (.pointer (some ⟨N,J+k,none⟩)) ?_;dsimp only[Act.put,kqe,kqc,kqb,kqa,kqf,kqd];refine tk 8 (.slice C d L) ?_ ?_
  .intro X a;have t:=a.1.2;(try dsimp only at a);go_simp
  dsimp only[Act.put,kqe,kqc,kqb,kqa,kqf,kqd];refine tk 9 (.string s) ?_ ?_
  .intro X a;have t:=b.out X C L a.2.2;(try dsimp only at a);go_simp
  dsimp only[Act.put,kqe,kqc,kqb,kqa,kqf,kqd];refine tj 10 (.bool false) ?_;dsimp only[Act.put,kqe,kqc,kqb,kqa,kqf,kqd];refine kx3 (by kernel_rfl) ?_ _;clear z G b;obtain⟨Y,D⟩:=xq (Value.string s);rw[D];clear D;simp only[kqa,kqf,kqd];go_wp2;go_roundw
  case rel=>exact⟨k+1,by omega,by go_num,v.out⟩
  case measure=>simp[intOf];omega
 have hkd:decide ((k:Int)<(n:Int))=false:=by rw[kqh];omega
 have hkn:decide (k<n)=false:=by rw[kqh];exact q
 have v:=hid m;clear m;go_wp2;go_ret;exact⟨rfl,v.out⟩
theorem Dp(A1 A2:Option Addr)(L:List Sl)(n c1 c2:Nat)(w:World)(h1:L.length=n)(hm:n<=1000000)(ha:RdS w w.heap.size A1 L)(hb:RdS w w.heap.size A2 L):
 Calls prog 78 #[.slice A1 n c1,.slice A2 n c2] w λe w'=>e=.returned (.bool true)/\Below w.heap.size w w':=by
 have y:=hid h1;have B:=hid ha;have A:=hid hb;clear ha hb h1;go_enter func78,ntmps78;go_wp2_with fail;go_loopw [5] (λi wr=>∃k:Nat,k<=n/\i=.int .i64 k/\Below w.heap.size w wr) (λi _=>n-(intOf i).toNat)
 case atStart=>exact⟨0,kqy _,rfl,kql _ _⟩
 obtain⟨k,hk,rfl,c⟩:=hrel;by_cases d:k<n
 .have g:k<L.length:=by rw[y.out];exact d
  obtain⟨h,l,rfl,hg1,u,s,m⟩:=RdS.at_ (Rd.below B.out c) g;obtain⟨j,f,rfl,hg2,o,v,t⟩:=RdS.at_ (Rd.below A.out c) g;obtain⟨x,z⟩:=xq (L[k]);rw[z] at u s m o v t;obtain⟨q,p,r⟩:=x;dsimp only at u s m o v t;have hk1:(k:Int)<(n:Int):=by omega
  have hk0:(0:Int)<=(k:Int):=by omega
  have b:=hid c.drew;clear z c;go_wp2_with fail;refine kz6 (S:=λX:World=>(X.cell? ⟨h,l+k*3,none⟩=some (.int .i64 q)/\X.cell? ⟨h,l+k*3+1,none⟩=some (.bool p)/\X.cell? ⟨h,l+k*3+2,none⟩=some (.int .i64 r))/\X.cell? ⟨j,f+k*3,none⟩=some (.int .i64 q)/\X.cell? ⟨j,f+k*3+1,none⟩=some (.bool p)/\X.cell? ⟨j,f+k*3+2,none⟩=some (.int .i64 r)) (by kernel_rfl) ⟨⟨u,s,m⟩,o,v,t⟩ (λa=>?_);show wpAnyH _ _ _ _ _ 9 #[false,false,false,false,false,false,false,false,false] _ _;refine tj 0 (.slice (some ⟨h,l,none⟩) n c1) ?_;dsimp only[Act.put,kqe,kqc,kqb,kqa,kqf,kqd];refine tj 1 (.int .i64 (k:Int)) ?_;dsimp only[Act.put,kqe,kqc,kqb,kqa,kqf,kqd];refine tj 2 (.pointer (some ⟨h,l+k*3,none⟩)) ?_;dsimp only[Act.put,kqe,kqc,kqb,kqa,kqf,kqd];refine tj 3 (.agg #[.int .i64 q,.bool p,.int .i64 r]) ?_;dsimp only[Act.put,kqe,kqc,kqb,kqa,kqf,kqd];refine tj 4 (.slice (some ⟨j,f,none⟩) n c2) ?_;dsimp only[Act.put,kqe,kqc,kqb,kqa,kqf,kqd];refine tj 5 (.int .i64 (k:Int)) ?_;dsimp only[Act.put,kqe,kqc,kqb,kqa,kqf,kqd];refine tj 6 (.pointer (some ⟨j,f+k*3,none⟩)) ?_;dsimp only[Act.put,kqe,kqc,kqb,kqa,kqf,kqd];refine tj 7 (.agg #[.int .i64 q,.bool p,.int .i64 r]) ?_;dsimp only[Act.put,kqe,kqc,kqb,kqa,kqf,kqd];refine tj 8 (.bool false) ?_;dsimp only[Act.put,kqe,kqc,kqb,kqa,kqf,kqd];refine kx3 (by kernel_rfl) ?_ _;clear a u s m o v t;simp only[kqa,kqf,kqd];go_wp2;go_roundw
  case rel=>exact⟨k+1,by omega,by go_num,b.out⟩
  case measure=>simp[intOf];omega
 have hkd:decide ((k:Int)<(n:Int))=false:=by rw[kqh];omega
 have hkn:decide (k<n)=false:=by rw[kqh];exact d
 have b:=hid c;clear c;go_wp2;go_ret;exact⟨rfl,b.out⟩
theorem Ec(A1 A2:Option Addr)(L:List Nat)(n c1 c2:Nat)(w:World)(h1:L.length=n)(hm:n<=1000000)(ha:RdW w w.heap.size A1 L)(hb:RdW w w.heap.size A2 L):
 Calls prog 79 #[.slice A1 n c1,.slice A2 n c2] w λe w'=>e=.returned (.bool true)/\Below w.heap.size w w':=by
 have g:=hid h1;have s:=hid ha;have r:=hid hb;clear ha hb h1;go_enter func79,ntmps79;go_wp2_with fail;go_loopw [5] (λi wr=>∃k:Nat,k<=n/\i=.int .i64 k/\Below w.heap.size w wr) (λi _=>n-(intOf i).toNat)
 case atStart=>exact⟨0,kqy _,rfl,kql _ _⟩
 obtain⟨k,hk,rfl,c⟩:=hrel;by_cases d:k<n
 .have f:k<L.length:=by rw[g.out];exact d
  obtain⟨l,o,rfl,hg1,m⟩:=RdW.at_ (Rd.below s.out c) f;obtain⟨p,j,rfl,hg2,h⟩:=RdW.at_ (Rd.below r.out c) f;obtain⟨x,q⟩:=xq (L[k]);rw[q] at m h;have hk1:(k:Int)<(n:Int):=by omega
  have hk0:(0:Int)<=(k:Int):=by omega
  have a:=hid c.drew;clear q c;go_wp2_with fail;refine kz6 (S:=λX:World=>X.cell? ⟨l,o+k,none⟩=some (.int .u64 (x:Int))/\X.cell? ⟨p,j+k,none⟩=some (.int .u64 (x:Int))) (by kernel_rfl) ⟨m,h⟩ (λb=>?_);show wpAnyH _ _ _ _ _ 9 #[false,false,false,false,false,false,false,false,false] _ _;refine tj 0 (.slice (some ⟨l,o,none⟩) n c1) ?_;dsimp only[Act.put,kqe,kqc,kqb,kqa,kqf,kqd];refine tj 1 (.int .i64 (k:Int)) ?_;dsimp only[Act.put,kqe,kqc,kqb,kqa,kqf,kqd];refine tj 2 (.pointer (some ⟨l,o+k,none⟩)) ?_;dsimp only[Act.put,kqe,kqc,kqb,kqa,kqf,kqd];refine tj 3 (.int .u64 (x:Int)) ?_;dsimp only[Act.put,kqe,kqc,kqb,kqa,kqf,kqd];refine tj 4 (.slice (some ⟨p,j,none⟩) n c2) ?_;dsimp only[Act.put,kqe,kqc,kqb,kqa,kqf,kqd];refine tj 5 (.int .i64 (k:Int)) ?_;dsimp only[Act.put,kqe,kqc,kqb,kqa,kqf,kqd];refine tj 6 (.pointer (some ⟨p,j+k,none⟩)) ?_;dsimp only[Act.put,kqe,kqc,kqb,kqa,kqf,kqd];refine tj 7 (.int .u64 (x:Int)) ?_;dsimp only[Act.put,kqe,kqc,kqb,kqa,kqf,kqd];refine tj 8 (.bool false) ?_;dsimp only[Act.put,kqe,kqc,kqb,kqa,kqf,kqd];refine kx3 (by kernel_rfl) ?_ _;clear b m h;simp only[kqa,kqf,kqd];go_wp2;go_roundw
  case rel=>exact⟨k+1,by omega,by go_num,a.out⟩
  case measure=>simp[intOf];omega
 have hkd:decide ((k:Int)<(n:Int))=false:=by rw[kqh];omega
 have hkn:decide (k<n)=false:=by rw[kqh];exact d
 have a:=hid c;clear c;go_wp2;go_ret;exact⟨rfl,a.out⟩
theorem DZ(v1 v2:Value)(m:Md)(w:World)(h1:qh w v1 m)(h2:qh w v2 m)(hT:m.types.length<=1000000)(hO:m.objs.length<=1000000)(hS:m.slots.length<=1000000)(hF:∀x∈m.objs,x.fl.length<=1000000):
 Calls prog 35 #[v1,v2] w λe w'=>e=.returned (.bool true)/\Below w.heap.size w w':=by
 obtain⟨TA,tc,L,OA,G,O,I,sc,rfl,a1,a2,a3,a4,a5⟩:=h1;obtain⟨TB,td,L',OB,H,O',SB,sd,rfl,b1,b2,b3,b4,b5⟩:=h2;have eL:L'.length=L.length:=by have:=congrArg List.length (b4.trans a4.symm);rw[kqs,kqs] at this;exact this
 have eO:O'.length=O.length:=by have:=congrArg List.length (b5.trans a5.symm);rw[kqs,kqs] at this;exact this
 have lT:L.length<=1000000:=by have:=congrArg List.length a4;rw[kqs] at this;omega
 have lO:O.length<=1000000:=by have:=congrArg List.length a5;rw[kqs] at this;omega
 have Jj:Hid (∀k (hk:k<O.length) (Jf:k<O'.length),O'[k].typ=O[k].typ/\O'[k].l=O[k].l/\O[k].l.length<=1000000):=hid λk hk Jf=>by
  have e:=congrArg (λl=>l[k]?) (b5.trans a5.symm);simp only[kzh,kqj hk,kqj Jf,kzk,Option.some.injEq] at e;unfold Oj.ob at e;injection e with e1 e2;have Ji:(O[k]).ob∈m.objs:=by rw[<-a5];exact kz9 (kqm hk)
  exact⟨e1,e2,hF _ Ji⟩
 have HT:=hid (λW (ha:RdL W W.heap.size TA L) (hb:RdL W W.heap.size TB L')=>Er TA TB L L' L.length tc td W rfl lT (a4.trans b4.symm) ha hb);have Eq:=hid (λW (ha:RdS W W.heap.size I m.slots) (hb:RdS W W.heap.size SB m.slots)=>Dp I SB m.slots m.slots.length sc sd W rfl hS ha hb);have a:=hid (((kql w.heap.size w).alloc (kqg _) (.cells #[.slice TA L.length tc,.slice OA O.length G,.slice I m.slots.length sc] 72)).alloc (by simp) (.cells #[.slice TB L.length td,.slice OB O.length H,.slice SB m.slots.length sd] 72));have X1:=hid ((Bx.new w 72 #[.slice TA L.length tc,.slice OA O.length G,.slice I m.slots.length sc]).alloc (.cells #[.slice TB L.length td,.slice OB O.length H,.slice SB m.slots.length sd] 72));have x2:=Bx.new (w.alloc (.cells #[.slice TA L.length tc,.slice OA O.length G,.slice I m.slots.length sc] 72)) 72 #[.slice TB L.length td,.slice OB O.length H,.slice SB m.slots.length sd];rw[kqn] at x2;have X2:=hid x2;rw[eL,eO];have Jh:=hid eO;have A:=hid (a1.up a.out a.out.size);have B:=hid (b1.up a.out a.out.size);have t:=hid (a2.up a.out a.out.size);have C:=hid (b2.up a.out a.out.size);have E:=hid (show RdS _ _ I m.slots from a3.up a.out a.out.size);have D:=hid (show RdS _ _ SB m.slots from b3.up a.out a.out.size);obtain⟨n,hn⟩:=xq O.length
 obtain⟨nt,z⟩:=xq L.length;obtain⟨ns,v⟩:=xq m.slots.length;rw[hn,z,v] at X1 X2 a A B t C E D;rw[z] at HT;rw[v] at Eq;rw[hn,z,v];rw[hn] at lO;have HN:=hid hn;obtain⟨p0,J,p2,-,-,-,-⟩:=X1.out.c3;obtain⟨q0,V,q2,-,-,-,-⟩:=X2.out.c3;clear a1 a2 a3 a4 a5 b1 b2 b3 b4 b5 eL eO hF hT hO hS hn z v x2 lT;go_enter func35,ntmps35;go_wp2_with fail;obtain⟨W,hW⟩:=xq ((w.alloc (.cells #[.slice TA nt tc,.slice OA n G,.slice I ns sc] 72)).alloc (.cells #[.slice TB nt td,.slice OB n H,.slice SB ns sd] 72));rw[hW] at a X1 X2 A B t C E D p0 J p2 q0 V q2 |-;clear hW;refine (HT.out W A.out B.out).mono ?_;rintro e w1 ⟨rfl,b⟩;have T:=hid (a.out.trans (b.mono a.out.size));have Y1:=hid (X1.out.up b X1.out.lt);have Y2:=hid (X2.out.up b X2.out.lt);have OL1:=hid (t.out.up b b.size);have OR1:=hid (C.out.up b b.size);have SL1:=hid (show RdS _ _ I m.slots from Rd.up E.out b b.size);have SR1:=hid (show RdS _ _ SB m.slots from Rd.up D.out b b.size);clear p0 J p2 q0 V q2 b A B t C E D X1 X2 a;obtain⟨p0,J,p2,-,-,-,-⟩:=Y1.out.c3;obtain⟨q0,V,q2,-,-,-,-⟩:=Y2.out.c3;go_wp2_with fail;refine (Eq.out w1 SL1.out SR1.out).mono ?_;rintro e w2 ⟨rfl,d⟩;have Je:=hid (T.out.trans (d.mono T.out.size))
 have Z1:=hid (Y1.out.up d Y1.out.lt);have Z2:=hid (Y2.out.up d Y2.out.lt);have OL2:=hid (OL1.out.up d d.size);have OR2:=hid (OR1.out.up d d.size);clear p0 J p2 q0 V q2 d OL1 OR1 SL1 SR1 Y1 Y2 T;go_wp2_with fail;go_loopw [5] (λi wr=>∃k:Nat,k<=n/\i=.int .i64 k/\Below w2.heap.size w2 wr) (λi _=>n-(intOf i).toNat)
 case atStart=>exact⟨0,kqy _,rfl,kql _ _⟩
 obtain⟨k,hk,rfl,r⟩:=hrel;have hz:=r.size;have x3:=Z1.out.up r Z1.out.lt;have y3:=Z2.out.up r Z2.out.lt;obtain⟨-,J,-,-,-,-,pl⟩:=x3.c3;obtain⟨-,V,-,-,-,-,ql⟩:=y3.c3;by_cases R:k<n
 .have Q:k<O.length:=by rw[HN.out];exact R
  have U:k<O'.length:=by rw[Jh.out,HN.out];exact R
  obtain⟨g,o,rfl,N,r0,r1⟩:=(OL2.out.up r hz).at_ Q;obtain⟨j,h,rfl,Z,s0,s1⟩:=(OR2.out.up r hz).at_ U;have s:=(OL2.out.2 _ (kqm Q)).up r hz;have u:=(OR2.out.2 _ (kqm U)).up r hz;obtain⟨e1,e2,e3⟩:=Jj.out k Q U;obtain⟨x,hx⟩:=xq (O[k]);obtain⟨y,hy⟩:=xq (O'[k]);rw[hx] at r0 r1 s e1 e2 e3;rw[hy] at s0 s1 u e1 e2;obtain⟨xt,xA,xc,xl⟩:=x;obtain⟨yt,yA,yc,M⟩:=y;dsimp only at r0 r1 s0 s1 s u e1 e2 e3;subst e1 e2;have Jg:=hid (λW (h1:RdW W W.heap.size xA M) (h2:RdW W W.heap.size yA M)=>Ec xA yA M M.length xc yc W rfl e3 h1 h2);obtain⟨F,Jd⟩:=xq M.length;rw[Jd] at r1 s1 Jg;have hk1:(k:Int)<(n:Int):=by omega
  have hk0:(0:Int)<=(k:Int):=by omega
  have q:=hid r.drew;have Jc:=hid (show RdW wr.drew wr.drew.heap.size xA M from s);have Ja:=hid (show RdW wr.drew wr.drew.heap.size yA M from u);have Jb:=hid (show (wr.drew.cell? ⟨w.heap.size,1,none⟩=some (.slice (some ⟨g,o,none⟩) n G)/\wr.drew.cell? ⟨w.heap.size+1,1,none⟩=some (.slice (some ⟨j,h,none⟩) n H))/\(wr.drew.cell? ⟨g,o+k*2,none⟩=some (.int .i64 yt)/\wr.drew.cell? ⟨g,o+k*2+1,none⟩=some (.slice xA F xc))/\wr.drew.cell? ⟨j,h+k*2,none⟩=some (.int .i64 yt)/\wr.drew.cell? ⟨j,h+k*2+1,none⟩=some (.slice yA F yc) from ⟨⟨J,V⟩,⟨r0,r1⟩,s0,s1⟩);clear hx hy Jd e3 s u r0 r1 s0 s1;go_wp2_with fail;clear J V x3 y3;obtain⟨WD,Y⟩:=xq wr.drew;refine kz6 (S:=λX:World=>(X.cell? ⟨w.heap.size,1,none⟩=some (.slice (some ⟨g,o,none⟩) n G)/\X.cell? ⟨w.heap.size+1,1,none⟩=some (.slice (some ⟨j,h,none⟩) n H))/\(X.cell? ⟨g,o+k*2,none⟩=some (.int .i64 yt)/\X.cell? ⟨g,o+k*2+1,none⟩=some (.slice xA F xc))/\X.cell? ⟨j,h+k*2,none⟩=some (.int .i64 yt)/\X.cell? ⟨j,h+k*2+1,none⟩=some (.slice yA F yc)) (by kernel_rfl) Jb.out (λf=>?_);have Jk:wr.heap.size=WD.heap.size:=by rw[<-Y];rfl
  rw[Y] at q Jc Ja f |-;clear Y Jb;rw[Jk] at N Z pl ql;show wpAnyH _ _ _ _ _ 29 #[false,false,false,false,false,false,false,false,false,false,false,false,false,false,false,false,false,false,false,false,false,false,false,false,false,false,false,false,false] _ _;refine tj 0 (.pointer (some ⟨w.heap.size,1,none⟩)) ?_;dsimp only[Act.put,kqe,kqc,kqb,kqa,kqf,kqd];refine tj 1 (.slice (some ⟨g,o,none⟩) n G) ?_;dsimp only[Act.put,kqe,kqc,kqb,kqa,kqf,kqd];refine tj 2 (.int .i64 (k:Int)) ?_;dsimp only[Act.put,kqe,kqc,kqb,kqa,kqf,kqd];refine tj 3 (.pointer (some ⟨g,o+k*2,none⟩)) ?_;dsimp only[Act.put,kqe,kqc,kqb,kqa,kqf,kqd];refine tj 4 (.pointer (some ⟨g,o+k*2,none⟩)) ?_;dsimp only[Act.put,kqe,kqc,kqb,kqa,kqf,kqd];refine tj 5 (.int .i64 yt) ?_;dsimp only[Act.put,kqe,kqc,kqb,kqa,kqf,kqd];refine tj 6 (.pointer (some ⟨w.heap.size+1,1,none⟩)) ?_;dsimp only[Act.put,kqe,kqc,kqb,kqa,kqf,kqd];refine tj 7 (.slice (some ⟨j,h,none⟩) n H) ?_;dsimp only[Act.put,kqe,kqc,kqb,kqa,kqf,kqd];refine tj 8 (.int .i64 (k:Int)) ?_;dsimp only[Act.put,kqe,kqc,kqb,kqa,kqf,kqd];refine tj 9 (.pointer (some ⟨j,h+k*2,none⟩)) ?_;dsimp only[Act.put,kqe,kqc,kqb,kqa,kqf,kqd];refine tj 10 (.pointer (some ⟨j,h+k*2,none⟩)) ?_;dsimp only[Act.put,kqe,kqc,kqb,kqa,kqf,kqd];refine tj 11 (.int .i64 yt) ?_;dsimp only[Act.put,kqe,kqc,kqb,kqa,kqf,kqd];refine tj 12 (.bool false) ?_
  dsimp only[Act.put,kqe,kqc,kqb,kqa,kqf,kqd];refine tj 13 (.bool false) ?_;dsimp only[Act.put,kqe,kqc,kqb,kqa,kqf,kqd];refine tj 14 (.pointer (some ⟨w.heap.size,1,none⟩)) ?_;dsimp only[Act.put,kqe,kqc,kqb,kqa,kqf,kqd];refine tj 15 (.slice (some ⟨g,o,none⟩) n G) ?_;dsimp only[Act.put,kqe,kqc,kqb,kqa,kqf,kqd];refine tj 16 (.int .i64 (k:Int)) ?_;dsimp only[Act.put,kqe,kqc,kqb,kqa,kqf,kqd];refine tj 17 (.pointer (some ⟨g,o+k*2,none⟩)) ?_;dsimp only[Act.put,kqe,kqc,kqb,kqa,kqf,kqd];refine tj 18 (.pointer (some ⟨g,o+k*2+1,none⟩)) ?_;dsimp only[Act.put,kqe,kqc,kqb,kqa,kqf,kqd];refine tj 19 (.slice xA F xc) ?_;dsimp only[Act.put,kqe,kqc,kqb,kqa,kqf,kqd];refine tj 20 (.pointer (some ⟨w.heap.size+1,1,none⟩)) ?_;dsimp only[Act.put,kqe,kqc,kqb,kqa,kqf,kqd];refine tj 21 (.slice (some ⟨j,h,none⟩) n H) ?_;dsimp only[Act.put,kqe,kqc,kqb,kqa,kqf,kqd];refine tj 22 (.int .i64 (k:Int)) ?_;dsimp only[Act.put,kqe,kqc,kqb,kqa,kqf,kqd];refine tj 23 (.pointer (some ⟨j,h+k*2,none⟩)) ?_;dsimp only[Act.put,kqe,kqc,kqb,kqa,kqf,kqd];refine tj 24 (.pointer (some ⟨j,h+k*2+1,none⟩)) ?_;dsimp only[Act.put,kqe,kqc,kqb,kqa,kqf,kqd];refine tj 25 (.slice yA F yc) ?_
  dsimp only[Act.put,kqe,kqc,kqb,kqa,kqf,kqd];simp only[kqa,kqf,kqd];refine kxr (rs:=[26]) (by kernel_rfl) (by simp) ?_;refine AllReadyH.cons rfl (λK hK=>?_) AllReadyH.nil;go_simp;refine (Jg.out _ Jc.out Ja.out).mono ?_;rintro e w3 ⟨rfl,c⟩;go_simp;have P:=f;refine hK.out _ _ ⟨⟨(c.cell (p:=⟨w.heap.size,1,none⟩) pl).trans P.1.1,(c.cell (p:=⟨w.heap.size+1,1,none⟩) ql).trans P.1.2⟩,⟨(c.cell (p:=⟨g,o+k*2,none⟩) N).trans P.2.1.1,(c.cell (p:=⟨g,o+k*2+1,none⟩) N).trans P.2.1.2⟩,(c.cell (p:=⟨j,h+k*2,none⟩) Z).trans P.2.2.1,(c.cell (p:=⟨j,h+k*2+1,none⟩) Z).trans P.2.2.2⟩ (λhT=>?_);clear hK K P;have Jl:=hid (q.out.trans (c.mono q.out.size));clear c f;(try dsimp only[Act.put,kqe,kqc,kqb,kqa,kqf,kqd]);refine tj 27 (.bool false) ?_;dsimp only[Act.put,kqe,kqc,kqb,kqa,kqf,kqd];refine tj 28 (.bool false) ?_;dsimp only[Act.put,kqe,kqc,kqb,kqa,kqf,kqd];refine kx3 (by kernel_rfl) ?_ _;clear hT;simp only[kqa,kqf,kqd];go_wp2;go_roundw
  case rel=>exact⟨k+1,by omega,by go_num,Jl.out⟩
  case measure=>simp[intOf];omega
 have hkd:decide ((k:Int)<(n:Int))=false:=by rw[kqh];omega
 have hkn:decide (k<n)=false:=by rw[kqh];exact R
 have q:=hid (Je.out.trans (r.mono Je.out.size));clear r x3 y3;go_wp2;go_ret;exact⟨rfl,q.out⟩
end Go.Proofs.YtpcajamacpbjcaaGreat
