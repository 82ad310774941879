/- Texts laid together: Tys WaP R18 LyP R19A Seq R19B R19C. -/
import Derived.Test.YtpcajamacpbjcaaGreatZR13R
import Derived.Test.YtpcajamacpbjcaaGreatZKRch
import Derived.Test.YtpcajamacpbjcaaGreatZKStg2
import Derived.Test.YtpcajamacpbjcaaGreatZKHead
import Derived.Test.YtpcajamacpbjcaaGreatZKRefs
import Derived.Test.YtpcajamacpbjcaaGreatZKImage
import Derived.Test.YtpcajamacpbjcaaGreatZKSup
import Derived.RowKit
import Derived.OrdersHeld
import Derived.Deep.RegionHeld
import Derived.BigQuiet
set_option maxHeartbeats 16000000
set_option linter.all false
namespace Go.Proofs.YtpcajamacpbjcaaGreat
open Go.RowKit
variable {ops:Array Oper}{l:List Bk}{ws:List Nat}{L:List Ty}{B H id k t:Nat}{o:Oper}{A:Option Addr}{P:Program}{v:Value}{w w':World}
open Go.Proofs.Tryz
theorem ta{l:List Ty}(h:Rd w B A (l.flatMap Ty.cells))(hk:k<l.length):
 ∃b a,A=some ⟨b,a,none⟩/\b<B/\w.cell? ⟨b,a+k,none⟩=some (.slice l[k].A l[k].l.length l[k].c):=by obtain⟨b,a,e,d,f⟩:=Rd.at_flat Ty.len h (by omega) hk;have:=f 0 (by omega);simp only[kxh,kz8] at this;exact⟨b,a,e,d,this⟩
def DG (w:World) (H:Nat) (v:Value) (L:List Ty):Prop:=w.ownsRow H 113 1 v L.length (L.flatMap Ty.cells)/\∀x∈L,w.ownsRow H 5 1 (.slice x.A x.l.length x.c) x.l.length (x.l.flatMap cc)
theorem Ff:(prog.info? 113).map (λi=>(i.zero,i.size,i.bytes))=some (some (.slice none 0 0),1,24):=by kernel_rfl
def Et (ws:List Nat) (t i:Nat):Bool:=if i<t then cw (wd ws (96+2*i)) (wd ws (96+2*i+1)) else wd ws (96+2*i)==0&&wd ws (96+2*i+1)==0
def xQ (ws:List Nat) (t k:Nat):Prop:=∀i,i<k->Et ws t i=true
def jN (ws:List Nat) (t:Nat):Bool:=(List.range 8).all λi=>Et ws t i
theorem kv(ws:List Nat)(t:Nat):jN ws t=true↔xQ ws t 8:=by unfold jN xQ;rw[kzo];exact⟨λh i a=>h i (kzn.2 a),λh i a=>h i (kzn.1 a)⟩
theorem vZ(h:xQ ws t k)(h1:Et ws t k=true):xQ ws t (k+1):=λi hi=>by
 rcases kq6 i k with a|a
 .exact h i a
 .have:i=k:=by omega
  subst this;exact h1
theorem zF(hk:k<8)(h:Et ws t k=false):jN ws t=false:=by
 cases a:jN ws t with
 | false=>rfl
 | true=>rw[(kv ws t).1 a k hk] at h;cases h
def iV (ws:List Nat) (t k:Nat):List (List Nat):=(List.range (min t k)).map λi=>bB (wd ws (96+2*i)) (wd ws (96+2*i+1))
theorem GU(h:k<t):iV ws t (k+1)=iV ws t k++[bB (wd ws (96+2*k)) (wd ws (96+2*k+1))]:=by unfold iV;rw[kk6 (by omega),kk6 (by omega),kva,kjy];rfl
theorem Fh(h:t<=k):iV ws t (k+1)=iV ws t k:=by unfold iV;rw[kxa (by omega),kxa (by omega)]
theorem ut(ws:List Nat)(t k:Nat):(iV ws t k).length=min t k:=by simp[iV]
theorem xW{wb:World}{v1:Value}{x:Ty}(h:∀y∈L,w.ownsRow H 5 1 (.slice y.A y.l.length y.c) y.l.length (y.l.flatMap cc))(hx:w.ownsRow H 5 1 (.slice x.A x.l.length x.c) x.l.length (x.l.flatMap cc))(hrow:wb.ownsRow H 113 1 v L.length (L.flatMap Ty.cells))(hwb:∀ {A:Option Addr} {n c:Nat} {xs:List Value},w.ownsRow H 5 1 (.slice A n c) n xs->wb.ownsRow H 5 1 (.slice A n c) n xs)(hg:wb.grownBy w' v.ownBlock)(h1:w'.ownsRow H 113 1 v1 (L.length+1) (L.flatMap Ty.cells++x.cells)):DG w' H v1 (L++[x]):=by
 refine⟨by rw[cP,kqs];exact h1,λy a=>?_⟩;rcases kzu.1 a with a|a
 .exact bp (hwb (h y a)) hg (fD (hwb (h y a)) hrow (by decide))
 rw[kqx] at a;subst a;exact bp (hwb hx) hg (fD (hwb hx) hrow (by decide))
def uW (l:List Bk) (j:Nat):Bool:=!(j==0)&&((gk l (j-1)).kind==2&&(gk l j).kind==2)
def lL (l:List Bk):Bool:=(List.range l.length).all λj=>!uW l j
def pc (l:List Bk) (k:Nat):Prop:=∀j,j<k->uW l j=false
theorem rx(l:List Bk):lL l=true↔pc l l.length:=by
 unfold lL pc;rw[kzo];constructor
 .intro h j a;have:=h j (kzn.2 a)
  simpa using this
 intro h j a;have:=h j (kzn.1 a)
 simpa using this
theorem vW(l:List Bk):pc l 0:=λj h=>absurd h (by omega)
theorem wN(h:pc l k)(h1:uW l k=false):pc l (k+1):=λj hj=>by
 rcases kq6 j k with a|a
 .exact h j a
 .have:j=k:=by omega
  subst this;exact h1
theorem zT(hk:k<l.length)(h:uW l k=true):lL l=false:=by
 cases a:lL l with
 | false=>rfl
 | true=>have:=(rx l).1 a k hk;rw[h] at this;cases this
def Fr (ws:List Nat):Bool:=match blocks ws 128 with | none=>false | some l=>lL l
theorem nh(h:blocks ws 128=some l):Fr ws=lL l:=by unfold Fr;rw[h]
theorem qT(h:blocks ws 128=none):Fr ws=false:=by unfold Fr;rw[h]
def EO (v:Nat):Bool:=v==9221120237041090561||decide (v%9223372036854775808<=9218868437227405312)
def aK (l:List Bk):List Bk:=l.filter λb=>b.kind==1
def th (O:List Bk) (v:Nat):Bool:=O.any λb=>b.at_==(v:Int)
def wrF (ws F:List Nat) (O:List Bk) (m r i:Nat):Bool:=if r=10 then F[i]? == some 2 && !EO (wd ws (m+2+i)) else F[i]? == some 3&&(decide (0<wd ws (m+2+i)) && !th O (wd ws (m+2+i)))
def wrB (ws:List Nat) (T:List (List Nat)) (O:List Bk) (m z ty:Nat) (mk:Bool) (nx r:Nat):Bool:=
 if r=7 then mk||decide (0<nx)
 else if r=8 then !decide (ty<T.length)||bZ (T[ty]?.getD []).length != z
 else if r=9 then decide ((T[ty]?.getD []).length+2<z)&&wd ws (m+2+(T[ty]?.getD []).length) != 0
 else (List.range (T[ty]?.getD []).length).any λi=>wrF ws (T[ty]?.getD []) O m r i
def wrK (ws:List Nat) (T:List (List Nat)) (O:List Bk) (r:Nat) (b:Bk):Bool:=wrB ws T O b.at_.toNat b.size.toNat b.typ.toNat b.mark b.next r
def iZ (ws:List Nat) (a:Nat):Bool:=(List.range 8).all λi=>wd ws (a+i)==0
def tg (ws:List Nat) (a k:Nat):Prop:=∀i,i<k->wd ws (a+i)=0
theorem kI(ws:List Nat)(a:Nat):iZ ws a=true↔tg ws a 8:=by
 unfold iZ tg;rw[kzo];constructor
 .intro h i b;have:=h i (kzn.2 b);simpa using this
 intro h i b;have:=h i (kzn.1 b);simpa using this
def pG (O:List Bk) (s:Sl):Bool:=!s.used||th O s.at_.toNat
def lay (ws:List Nat):Bool:=match tyN ws,blocks ws 128 with
 | some t,some l=>iZ ws 16&&(iZ ws 24&&(jN ws t&&(slsOk ws&&(lL l&&((List.range 5).all (λr=>(aK l).all λb => !wrK ws (iV ws t 8) (aK l) (7+r) b)&&(slL ws).all (pG (aK l)))))))
 | _,_=>false
def bi (ws:List Nat):Int:=if ap (ws.length:Int)=true then (if lay ws=true then 0 else 50) else 8
theorem Ad(hk:k<l.length):aK (l.take (k+1))=aK (l.take k)++(if l[k].kind=1 then [l[k]] else []):=by
 unfold aK;rw[kqn hk,kxx];congr 1;by_cases h:l[k].kind=1
 .rw[if_pos h];simp[h]
 rw[if_neg h];simp[h]
def m9:Op->Bool
 | .move _ | .assign _ | .pick _ _ _ | .load _ _ | .build _ _ | .binOp _ _ _ _ _ | .unOp _ _ _ | .convert _ _ _ | .slice _ _ _ _ _ | .fieldAddr _ _ _ | .field _ _ _ | .indexAddr _ _ _ | .index _ _ _ | .extract _ _=>true
 | _=>false
structure SW (S:World->Prop) where
 w:World
 ok:S w
theorem cls_of{S:World->Prop}(h:S w):∃g:SW S,w=g.w:=⟨⟨w,h⟩,rfl⟩
theorem cA{α:Type}(f:α->Value)(s:Sem α):∀w,(∃u w',(s.bind λx=>Sem.pure (Next.value (f x))).run P w=.ok (.value u) w')\/∃h w',(s.bind λx=>Sem.pure (Next.value (f x))).run P w=.halt h w':=by
 induction s with
 | pure a=>intro w;exact .inl ⟨f a,w,rfl⟩
 | load m a k ih =>
  intro w;simp only[Sem.bind,Sem.run];split
  .exact ih _ w
  split
  .exact ih _ w
  exact .inr ⟨_,_,rfl⟩
 | store m a v k ih =>
  intro w;cases v<;>simp only[Sem.bind,Sem.run]<;>first
   | exact .inr ⟨_,_,rfl⟩
   | (
    split
    .split
     .exact .inr ⟨_,_,rfl⟩
     exact ih _
    split
    .exact ih _
    exact .inr ⟨_,_,rfl⟩)
 | new o k ih=>intro w;exact ih _ _
 | shape r k ih=>intro w;exact ih _ _
 | freeze a n k ih=>intro w;exact ih _
 | frozen a k ih=>intro w;exact ih _ _
 | getObj r k ih =>
  intro w;simp only[Sem.bind,Sem.run];split
  .exact .inr ⟨_,_,rfl⟩
  .exact ih _ w
  exact .inr ⟨_,_,rfl⟩
 | setObj r o k ih =>
  intro w;simp only[Sem.bind,Sem.run];split
  .exact .inr ⟨_,_,rfl⟩
  .exact ih _
  exact .inr ⟨_,_,rfl⟩
 | choose q k ih =>
  intro w;simp only[Sem.bind,Sem.run];split
  .exact ih _ _
  exact ih _ _
 | sys c k ih=>intro w;exact ih _ _
 | program k ih=>intro w;exact ih _ _
 | mark m k ih=>intro w;exact ih _
 | halt h=>intro w;exact .inr ⟨h,w,rfl⟩
theorem wx{ρ:Operand->Value}(h:m9 o.op=true)(w:World):(∃u w',(execOp ρ o).run P w=.ok (.value u) w')\/∃h w',(execOp ρ o).run P w=.halt h w':=by
 unfold execOp;unfold m9 at h;split at h
 .rename_i x e;rw[e];exact .inl ⟨_,w,rfl⟩
 .rename_i x e;rw[e];exact .inl ⟨_,w,rfl⟩
 .rename_i c a b e;rw[e];exact cA _ _ w
 .rename_i e;rw[e];exact cA id _ w
 .rename_i e;rw[e];exact cA id _ w
 .rename_i e;rw[e];exact cA id _ w
 .rename_i e;rw[e];exact cA id _ w
 .rename_i e;rw[e];exact cA id _ w
 .rename_i e;rw[e];exact cA id _ w
 .rename_i e;rw[e];exact cA id _ w
 .rename_i e;rw[e];exact cA id _ w
 .rename_i e;rw[e];exact cA id _ w
 .rename_i e;rw[e];exact cA id _ w
 .rename_i e;rw[e];exact cA id _ w
 cases h
theorem rN{C:World->Prop}{a:Act}(h:m9 o.op=true)(hq:o.quietAt P a C w v):(execOp a.eval o).run P w=.ok (.value v) w:=by
 unfold Oper.quietAt at hq;rcases wx (P:=P) (ρ:=a.eval) h w with⟨u,w',e⟩|⟨h',w',e⟩
 .rw[e] at hq |-;obtain⟨rfl,rfl⟩:=hq;rfl
 rw[e] at hq;exact False.elim hq
inductive It where
 | one (o:Oper) (tk:Bool) (gd:Option (Option Tmp × Bool))
 | two (o1 o2:Oper) (gd:Option (Option Tmp × Bool))
def gOk (gd:Option (Option Tmp × Bool)) (tmps:Array Value):Bool:=match gd with
 | none=>true
 | some (d,b)=>(match d.bind (tmps[·]?) with
  | some (.bool x)=>some x
  | _=>none)==some b
def sU (ops:Array Oper) (o:Oper):Option (Option Tmp × Bool):=match o.guard with
 | none=>none
 | some (g,b)=>some ((ops.toList[g]?).bind (·.dst),b)
theorem eM(ops:Array Oper)(o:Oper)(tmps:Array Value):Region.wanted o (yielded ops tmps)=gOk (sU ops o) tmps:=by
 unfold Region.wanted sU gOk;split
 .rename_i h;rw[h]
 rename_i j b h;rw[h];simp only[kk3];rfl
def Co (ops:Array Oper):List (Nat × Nat × Nat)->List It
 | []=>[]
 | (k,i,j)::r=>match ops.toList[i]? with
  | none=>[]
  | some o=>match k with
   | 0=>.one o true (sU ops o)::Co ops r
   | 2=>(match ops.toList[j]? with
    | none=>[]
    | some o2=>.two o o2 (sU ops o)::Co ops r)
   | _=>.one o false (sU ops o)::Co ops r
def lX:List (Nat × Nat × Nat)->Nat
 | []=>0
 | (k,_,_)::r=>(if k=2 then 2 else 1)+lX r
def lD (md:Region.Mode) (ops:Array Oper):List (Nat × Nat × Nat)->Array Bool->Bool
 | [],listed=>(Region.ready md ops listed).isEmpty
 | (k,i,j)::r,listed=>if k=2 then
  (match ops[i]?,ops[j]? with
   | some o1,some o2=>sU ops o1==sU ops o2
   | _,_=>false)&&(Region.ready md ops listed==[i,j]&&(Region.ready md ops (listed.setIfInBounds i true)==[j]&&(Region.ready md ops (listed.setIfInBounds j true)==[i]&&(i != j&&lD md ops r ((listed.setIfInBounds i true).setIfInBounds j true)))))
  else (ops[i]?).any (λo=>if k=0 then m9 o.op&&(Region.free md ops listed i&&(Region.ready md ops listed).contains i) else Region.ready md ops listed==[i])&&lD md ops r (listed.setIfInBounds i true)
def mZ (md:Region.Mode) (ops:Array Oper):List (Nat × Nat × Nat)->Array Bool->Bool
 | [],_=>true
 | (k,i,j)::r,listed=>if k=2 then
  (match ops[i]?,ops[j]? with
   | some o1,some o2=>sU ops o1==sU ops o2
   | _,_=>false)&&(Region.ready md ops listed==[i,j]&&(Region.ready md ops (listed.setIfInBounds i true)==[j]&&(Region.ready md ops (listed.setIfInBounds j true)==[i]&&(i != j&&mZ md ops r ((listed.setIfInBounds i true).setIfInBounds j true)))))
  else (ops[i]?).any (λo=>if k=0 then m9 o.op&&(Region.free md ops listed i&&(Region.ready md ops listed).contains i) else Region.ready md ops listed==[i])&&mZ md ops r (listed.setIfInBounds i true)
def k8:List (Nat × Nat × Nat)->Array Bool->Array Bool
 | [],listed=>listed
 | (k,i,j)::r,listed=>k8 r (if k=2 then (listed.setIfInBounds i true).setIfInBounds j true else listed.setIfInBounds i true)
theorem dC{md:Region.Mode}{l2:List (Nat × Nat × Nat)}:∀(b:List (Nat × Nat × Nat)) {a:Array Bool},mZ md ops b a=true->lD md ops l2 (k8 b a)=true->lD md ops (b++l2) a=true:=by
 intro b
 induction b with
 | nil=>intro a _ h;exact h
 | cons x b ih =>
  intro a c d;obtain⟨k,i,j⟩:=x;by_cases e:k=2
  .subst e;simp only[mZ,if_true,kqo] at c;simp only[k8,if_true] at d;obtain⟨f,o,g,n,l,m⟩:=c;rw[kzg];simp only[lD,if_true,kqo];exact⟨f,o,g,n,l,ih m d⟩
  simp only[mZ,e,if_false,kqo] at c;simp only[k8,e,if_false] at d;rw[kzg];simp only[lD,e,if_false,kqo];exact⟨c.1,ih c.2 d⟩
def gt (P:Program) (Q:Exit->Act->World->Prop) (S:World->Prop):List It->Act->World->Prop
 | [],a,w=>Q .normal a w
 | .one o t g::r,a,w=>if gOk g a.tmps=true then (if t=true then o.quiet P a (λX=>∃g:SW S,X=g.w) (λa'=>gt P Q S r a' w) else o.wp P a w (λa' w'=>S w'/\gt P Q S r a' w') Q) else gt P Q S r (a.put o.dst undef) w
 | .two o1 o2 g::r,a,w=>if gOk g a.tmps=true then
  (
   o1.wp P a w (λa1 w1=>S w1/\gOk g a1.tmps=true/\o2.wp P a1 w1 (λa2 w2=>S w2/\gt P Q S r a2 w2) Q) Q /\
   o2.wp P a w (λa1 w1=>S w1/\gOk g a1.tmps=true/\o1.wp P a1 w1 (λa2 w2=>S w2/\gt P Q S r a2 w2) Q) Q) else False
section
variable {P:Program} {Q:Exit->Act->World->Prop} {S:World->Prop} {r:List It} {a:Act} {w:World} {o o1 o2:Oper} {g:Option (Option Tmp × Bool)}
theorem ET(h:Q .normal a w):gt P Q S [] a w:=h
theorem kx(hg:gOk g a.tmps=true)(h:∀K:Act->Prop,(∀a',gt P Q S r a' w->K a')->o.quiet P a (λX=>∃g:SW S,X=g.w) K):gt P Q S (.one o true g::r) a w:=by unfold gt;rw[if_pos hg,if_pos rfl];exact h _ λ_ h=>h
theorem oD(hg:gOk g a.tmps=true)(h:∀K:Act->World->Prop,(∀a' w',S w'->gt P Q S r a' w'->K a' w')->o.wp P a w K Q):gt P Q S (.one o false g::r) a w:=by unfold gt;rw[if_pos hg,if_neg (by decide)];exact h _ λ_ _ b c=>⟨b,c⟩
theorem CY{t:Bool}(hg:gOk g a.tmps=false)(h:gt P Q S r (a.put o.dst undef) w):gt P Q S (.one o t g::r) a w:=by unfold gt;rw[if_neg (by rw[hg];decide)];exact h
theorem yk(hs:Region.noSelect ops=true)(hQ:∀c a d v w,Q (.panic c) (a.put d v) w->Q (.panic c) a w):∀(l:List (Nat × Nat × Nat)) (b:Nat) (e:Array Bool) (a:Act) (w:World),lX l<=b->lD .any ops l e=true->S w->gt P Q S (Co ops l) a w->wpAnyH P .any ops Q S b e a w:=by
 intro l
 induction l with
 | nil =>intro b e a w _ p _ h;exact kjw (List.isEmpty_iff.1 p) h b
 | cons x l ih =>
  intro b e a w J p A h;obtain⟨k,i,j⟩:=x;by_cases D:k=2
  .subst D;simp only[lX,if_true] at J;obtain⟨b,rfl⟩:∃f,b=f+1+1:=⟨b-2,by omega⟩;have u:lX l<=b:=by omega
   simp only[lD,if_true,kqo] at p;obtain⟨g,z,N,Z,O,L⟩:=p;cases n:ops[i]? with
   | none=>rw[n] at g;cases g
   | some o1 =>
    cases s:ops[j]? with
    | none=>rw[n,s] at g;cases g
    | some o2 =>
     rw[n,s] at g;have C:sU ops o1=sU ops o2:=by simpa using g
     simp only[Co,kk3,n,s] at h;unfold gt at h;cases m:gOk (sU ops o1) a.tmps with
     | false=>rw[if_neg (by rw[m];decide)] at h;exact h.elim
     | true =>
      rw[if_pos m] at h;refine wpAnyH_all (rs:=[i,j]) (by simpa using z) (by simp) λq E=>?_;have G:i≠j:=by simpa using O
      rcases kqt.1 E with rfl|E
      .unfold wpOp;simp only[n];rw[eM,m,if_pos rfl];refine .inl (Oper.wp_mono (λV R t=>⟨t.1,?_⟩) h.1);refine wpAnyH_all (rs:=[j]) (by simpa using N) (by simp) λH r=>?_;rw[kqx] at r;subst r;unfold wpOp;simp only[s];rw[eM,<-C,t.2.1,if_pos rfl];exact .inl (Oper.wp_mono (λT Y y=>⟨y.1,ih b _ _ _ u L y.1 y.2⟩) t.2.2)
      rw[kqx] at E;subst E;unfold wpOp;simp only[s];rw[eM,<-C,m,if_pos rfl];refine .inl (Oper.wp_mono (λV R t=>⟨t.1,?_⟩) h.2);refine wpAnyH_all (rs:=[i]) (by simpa using Z) (by simp) λH r=>?_;rw[kqx] at r;subst r;unfold wpOp;simp only[n];rw[eM,t.2.1,if_pos rfl];refine .inl (Oper.wp_mono (λT Y y=>⟨y.1,?_⟩) t.2.2);rw[Array.setIfInBounds_comm _ _ (Ne.symm G)];exact ih b _ _ _ u L y.1 y.2
  simp only[lX,D,if_false] at J;obtain⟨b,rfl⟩:∃f,b=f+1:=⟨b-1,by omega⟩;have u:lX l<=b:=by omega
  simp only[lD,D,if_false,kqo] at p;obtain⟨g,z⟩:=p;cases B:ops[i]? with
  | none=>rw[B] at g;simp at g
  | some o =>
   rw[B] at g;simp only[Option.any_some] at g;simp only[Co,kk3,B] at h;by_cases F:k=0
   .subst F;unfold gt at h;simp only[if_true] at g h;simp only[kqo] at g;obtain⟨g1,I,M⟩:=g;cases m:gOk (sU ops o) a.tmps with
    | true =>rw[if_pos m] at h;obtain⟨v,W,H⟩:=h;exact kki B hs I M (λc a w=>hQ c a _ v w) (.inl ⟨by rw[eM];exact m,λX U=>rN g1 (W X (cls_of U))⟩) A (ih b _ _ _ u z A H)
    | false =>rw[if_neg (by rw[m];decide)] at h;exact kki B hs I M (λc a w=>hQ c a _ undef w) (.inr ⟨by rw[eM];exact m,rfl⟩) A (ih b _ _ _ u z A h)
   have hkb:(k==0)=false:=by rw[kqj];exact F
   simp only[F,if_false] at g;have h:gt P Q S (.one o false (sU ops o)::Co ops l) a w:=by
    match k,D,F,h with
    | 1,_,_,h=>exact h
    | k+3,_,_,h=>exact h
   unfold gt at h;refine wpAnyH_all (rs:=[i]) (by simpa using g) (by simp) λj K=>?_;rw[kqx] at K;subst K;unfold wpOp;simp only[B];cases m:gOk (sU ops o) a.tmps with
   | true =>rw[if_pos m,if_neg (by decide)] at h;rw[eM,m,if_pos rfl];exact .inl (Oper.wp_mono (λa' w' h=>⟨h.1,ih b _ _ _ u z h.1 h.2⟩) h)
   | false =>rw[if_neg (by rw[m];decide)] at h;rw[eM,m,if_neg (by decide)];exact⟨A,ih b _ _ _ u z A h⟩
theorem kB(l:List (Nat × Nat × Nat))(L:List It)(hm:P.follows .mixedOrders=true)(hs:Region.noSelect ops=true)(hl:lX l<=ops.size)(hok:lD .any ops l (Array.replicate ops.size false)=true)(hL:Co ops l=L)(hQ:∀c a d v w,Q (.panic c) (a.put d v) w->Q (.panic c) a w)(hS:S w.drew)(h:gt P Q S L a w.drew):(Code.region id ops true).wp P Q a w:=by subst hL;exact wp_region_held hm (yk hs hQ l ops.size _ a w.drew hl hok hS h)
structure SqG (P:Program) (Q:Exit->Act->World->Prop) (S:World->Prop) (l:List It) (a:Act) (w:World):Prop where
 out:gt P Q S l a w
theorem Er(h:Q .normal a w):SqG P Q S [] a w:=⟨h⟩
theorem lF(hg:gOk g a.tmps=true)(h:∀K:Act->Prop,(∀b,SqG P Q S r b w->K b)->o.quiet P a (λX=>∃g:SW S,X=g.w) K):SqG P Q S (.one o true g::r) a w:=⟨kx hg λK d=>h K λb c=>d b c.out⟩
theorem zA(hg:gOk g a.tmps=true)(h:∀K:Act->World->Prop,(∀b w',S w'->SqG P Q S r b w'->K b w')->o.wp P a w K Q):SqG P Q S (.one o false g::r) a w:=⟨oD hg λK e=>h K λb w' c d=>e b w' c d.out⟩
theorem iJ{t:Bool}(hg:gOk g a.tmps=false)(h:SqG P Q S r (a.put o.dst undef) w):SqG P Q S (.one o t g::r) a w:=⟨CY hg h.out⟩
theorem qM(l:List (Nat × Nat × Nat))(L:List It)(hm:P.follows .mixedOrders=true)(hs:Region.noSelect ops=true)(hl:lX l<=ops.size)(hok:lD .any ops l (Array.replicate ops.size false)=true)(hL:Co ops l=L)(hQ:∀c a d v w,Q (.panic c) (a.put d v) w->Q (.panic c) a w)(hS:S w.drew)(h:SqG P Q S L a w.drew):(Code.region id ops true).wp P Q a w:=kB l L hm hs hl hok hL hQ hS h.out
end
def RdL (w:World) (B:Nat) (A:Option Addr) (L:List Ty):Prop:=Rd w B A (L.flatMap Ty.cells)/\∀x∈L,RdY w B x.A x.l
theorem RdL.up{B':Nat}(h:RdL w B A L)(hb:Below B w w')(hB:B<=B'):RdL w' B' A L:=⟨h.1.up hb hB,λx a=>(h.2 x a).up hb hB⟩
theorem RdL.of_own{n c:Nat}(h:DG w H (.slice A n c) L)(hn:L.length=n):RdL w w.heap.size A L:=by subst hn;exact⟨Rd.of_own h.1,λx a=>Rd.of_own (h.2 x a)⟩
theorem o8(ht:tyN ws=some t)(hl:blocks ws 128=some l):lay ws=true↔iZ ws 16=true/\iZ ws 24=true/\jN ws t=true/\slsOk ws=true/\lL l=true/\(∀r,7<=r->r<12->∀b∈aK l,wrK ws (iV ws t 8) (aK l) r b=false)/\∀s∈slL ws,pG (aK l) s=true:=by
 unfold lay;rw[ht,hl];simp only[kqo,kzo,kzn,kx6];constructor
 .rintro ⟨d,i,e,h,f,g,a⟩;refine⟨d,i,e,h,f,λr h1 h2 b c=>?_,a⟩;have:=g (r-7) (by omega) b c;rwa [show 7+(r-7)=r by omega] at this
 rintro ⟨d,i,e,h,f,g,a⟩;exact⟨d,i,e,h,f,λr hr b c=>g (7+r) (by omega) (by omega) b c,a⟩
theorem tN(h:tyN ws=none\/blocks ws 128=none):lay ws=false:=by
 unfold lay;rcases h with h|h
 .rw[h]
 rw[h];cases tyN ws<;>rfl
theorem iw(hl:blocks ws 128=some l){b:Bk}(hb:b∈aK l):∃a z ty nx:Nat,∃mk,b=⟨(a:Int),(z:Int),1,(ty:Int),mk,nx⟩/\128<=a/\a+z<=ws.length/\2<=z/\b=bkAt ws a/\stands ws a=true:=by
 unfold aK at hb;obtain⟨i,c⟩:=kzm.1 hb;rw[kqw] at c;obtain⟨k,g,rfl⟩:=kq2 i;obtain⟨a,e,a1,m,a3,f,-⟩:=b9 _ _ hl (by omega) k g;have d:=aG f;rw[e] at c;have j:bkAt ws a=⟨(a:Int),((szAt ws a:Nat):Int),1,(((ar (wd ws a)).typ.toNat:Nat):Int),(ar (wd ws a)).mark,wd ws (a+1)⟩:=by
  have h:(ar (wd ws a)).typ=(((ar (wd ws a)).typ.toNat:Nat):Int):=by unfold ar;dsimp only;omega
  rw[<-h,<-c];rfl
 exact⟨a,szAt ws a,(ar (wd ws a)).typ.toNat,wd ws (a+1),(ar (wd ws a)).mark,by rw[e,j],m,d.2.2,d.1,e,f⟩
end Go.Proofs.YtpcajamacpbjcaaGreat
