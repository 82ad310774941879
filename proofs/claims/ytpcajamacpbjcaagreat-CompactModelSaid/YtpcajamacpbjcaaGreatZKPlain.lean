/- Texts laid together: Base BrkP BrkQ BrkX HeapP KindP FwdP FwdQ FwdR SldP FwbP. -/
import Derived.Test.YtpcajamacpbjcaaGreatRows
import Derived.WalkKit
import Derived.WalkSpells
import Derived.WalkLawsBesides
import Derived.Deep.QuietTactic
import Derived.BigQuiet
import Derived.Lib.Hide
import Derived.Deep.AppendLies
import Derived.Deep.OwnRows
import Derived.Deep.Cut
import Derived.Deep.Draws
import Derived.Deep.LoopGhost
import Derived.Deep.RegionWith
import Derived.WalkSmall
import Derived.Test.YtpcajamacpbjcaaGreatZA
set_option maxHeartbeats 16000000
set_option linter.all false
namespace Go.Proofs.YtpcajamacpbjcaaGreat
open Go.RowKit
variable {xm:Bool}{f nx s xa xk xt:Int}{ws:List Nat}{xs:List Value}{B H g i j k n sz xn:Nat}{o:Obj}{A:Option Addr}{α:Type}{e t:TypeId}{v x y:Value}{w w' w1 wr:World}
def Rd (w:World) (B:Nat) (A:Option Addr) (xs:List Value):Prop:=
 xs≠[]->∃b off,A=some ⟨b,off,none⟩/\b<B/\∀j (h:j<xs.length),w.cell? ⟨b,off+j,none⟩=some xs[j]
section
variable {w w':World} {B B':Nat} {A:Option Addr} {xs:List Value}
theorem Rd.nil_:Rd w B A []:=λh=>absurd rfl h
theorem Rd.keep(h:Rd w B A xs)(hk:∀p:Addr,p.block<B->w'.cell? p=w.cell? p):Rd w' B A xs:=λd=>by obtain⟨b,a,e,c,f⟩:=h d;exact⟨b,a,e,c,λj g=>(hk ⟨b,a+j,none⟩ c).trans (f j g)⟩
theorem Rd.more(h:Rd w B A xs)(hB:B<=B'):Rd w B' A xs:=λc=>by obtain⟨b,a,e,hb,d⟩:=h c;exact⟨b,a,e,by omega,d⟩
theorem Rd.below(h:Rd w B A xs)(hb:Below B w w'):Rd w' B A xs:=h.keep λ_ a=>hb.cell a
theorem Rd.up(h:Rd w B A xs)(hb:Below B w w')(hB:B<=B'):Rd w' B' A xs:=(h.below hb).more hB
theorem Rd.alloc(h:Rd w B A xs)(hB:B<=w.heap.size)(o:Obj):Rd (w.alloc o) B A xs:=h.keep λp hp=>kq4 w o p (by omega)
theorem Rd.drop_(h:Rd w B A xs)(k:Nat):Rd w B (A.map (·.add k)) (xs.drop k):=λg=>by
 have c:k<xs.length:=by
  rcases kq9 k xs.length with a|a
  .exact a
  exact absurd (List.drop_eq_nil_of_le a) g
 obtain⟨b,d,rfl,i,l⟩:=h (by intro e;subst e;simp at c);refine⟨b,d+k,?_,i,λj m=>?_⟩
 .simp only[kzk,Addr.add];split<;>simp_all
 have f:k+j<xs.length:=by simp at m;omega
 rw[kj6,kjz];exact l _ f
theorem Rd.take_(h:Rd w B A xs)(k:Nat):Rd w B A (xs.take k):=λc=>by obtain⟨b,a,rfl,d,f⟩:=h (by intro e;subst e;simp at c);exact⟨b,a,rfl,d,λj g=>by rw[kk5];exact f j (by simp at g;omega)⟩
theorem Rd.of_own{base size:Nat}{c:Nat}(h:w.ownsRow base e size (.slice A n c) n xs):Rd w w.heap.size A xs:=λd=>by
 have i:0<n:=by
  rcases kx6 n with a|a
  .have:=h.1;subst a;simp at this;exact absurd this d
  exact a
 obtain⟨g,cap,k,_,b⟩:=h.form i;have l:A=some ⟨g,0,none⟩:=by injection k
 subst l;refine⟨g,0,rfl,b,λj f=>?_⟩;have:=h.cells (g:=g) rfl j xs[j] (kqj f);have e:(⟨g,0,none⟩:Addr).add j=⟨g,0+j,none⟩:=by unfold Addr.add;split<;>simp_all
 rwa [e] at this
end
theorem bE(f:α->List Value)(sz:Nat)(hf:∀x,(f x).length=sz)(l:List α):(l.flatMap f).length=l.length*sz:=by
 induction l with
 | nil=>simp
 | cons x l ih=>rw[kzy,kqw,hf,ih,kzc,kje];omega
theorem ig(f:α->List Value)(sz:Nat)(hf:∀x,(f x).length=sz)(l:List α)(k j:Nat)(hk:k<l.length)(hj:j<sz):
 (l.flatMap f)[k*sz+j]? = (f l[k])[j]?:=by
 induction l generalizing k with
 | nil=>simp at hk
 | cons x l ih =>
  rw[kzy];cases k with
  | zero=>rw[kj2 (by rw[hf];omega)];simp
  | succ k =>
   rw[kxj (by rw[hf,kje];omega),hf];have:(k+1)*sz+j-sz=k*sz+j:=by rw[kje];omega
   rw[this,ih k (by simpa using hk)];simp
theorem Rd.at_flat{f:α->List Value}{l:List α}(hf:∀x,(f x).length=sz)(h:Rd w B A (l.flatMap f))(hsz:0<sz)(hk:k<l.length):
 ∃b a,A=some ⟨b,a,none⟩/\b<B/\∀j,j<sz->w.cell? ⟨b,a+k*sz+j,none⟩=(f l[k])[j]?:=by
 have i:=bE f sz hf l;have c:0<(l.flatMap f).length:=by rw[i];exact Nat.mul_pos (by omega) hsz
 obtain⟨b,a,rfl,m,n⟩:=h (by intro e;rw[e] at c;simp at c);refine⟨b,a,rfl,m,λj o=>?_⟩;have d:k*sz+j<(l.flatMap f).length:=by rw[i];have:(k+1)*sz<=l.length*sz:=kjb _ hk;rw[kje] at this;omega
 have g:=n _ d;rw[<-kjz] at g;rw[g,<-ig f sz hf l k j hk o];exact (kqj d).symm
structure En where
 a:Int
 v:Nat
 deriving DecidableEq,Inhabited
def En.cells (e:En):List Value:=[.int .i64 e.a,.int .u64 (e.v:Int)]
structure Bk where
 at_:Int
 size:Int
 kind:Int
 typ:Int
 mark:Bool
 next:Nat
 deriving DecidableEq,Inhabited
variable {b:Bk}{l:List Bk}
def Bk.cells (b:Bk):List Value:=[.int .i64 b.at_,.int .i64 b.size,.int .i64 b.kind,.int .i64 b.typ,.bool b.mark,.int .u64 (b.next:Int)]
def Bk.val (b:Bk):Value:=.agg #[.int .i64 b.at_,.int .i64 b.size,.int .i64 b.kind,.int .i64 b.typ,.bool b.mark,.int .u64 (b.next:Int)]
def cd (x:Int):List Value:=[.int .i64 x]
def ai (x:Nat):List Value:=[.int .u64 (x:Int)]
def RdE (w:World) (B:Nat) (A:Option Addr) (l:List En):Prop:=Rd w B A (l.flatMap En.cells)
def RdB (w:World) (B:Nat) (A:Option Addr) (l:List Bk):Prop:=Rd w B A (l.flatMap Bk.cells)
def RdI (w:World) (B:Nat) (A:Option Addr) (l:List Int):Prop:=Rd w B A (l.flatMap cd)
def RdW (w:World) (B:Nat) (A:Option Addr) (l:List Nat):Prop:=Rd w B A (l.flatMap ai)
theorem En.len(x:En):x.cells.length=2:=rfl
theorem Bk.len(x:Bk):x.cells.length=6:=rfl
theorem iZ(x:Int):(cd x).length=1:=rfl
theorem aZ(x:Nat):(ai x).length=1:=rfl
theorem RdE.at_{l:List En}(h:RdE w B A l)(hk:k<l.length):
 ∃b c,A=some ⟨b,c,none⟩/\b<B/\w.cell? ⟨b,c+k*2,none⟩=some (.int .i64 l[k].a)/\w.cell? ⟨b,c+k*2+1,none⟩=some (.int .u64 (l[k].v:Int)):=by obtain⟨b,c,e,f,d⟩:=Rd.at_flat En.len h (by omega) hk;exact⟨b,c,e,f,d 0 (by omega),d 1 (by omega)⟩
theorem RdB.at_(h:RdB w B A l)(hk:k<l.length):
 ∃b a,A=some ⟨b,a,none⟩/\b<B/\w.cell? ⟨b,a+k*6,none⟩=some (.int .i64 l[k].at_)/\w.cell? ⟨b,a+k*6+1,none⟩=some (.int .i64 l[k].size) /\
  w.cell? ⟨b,a+k*6+2,none⟩=some (.int .i64 l[k].kind)/\w.cell? ⟨b,a+k*6+3,none⟩=some (.int .i64 l[k].typ) /\
  w.cell? ⟨b,a+k*6+4,none⟩=some (.bool l[k].mark)/\w.cell? ⟨b,a+k*6+5,none⟩=some (.int .u64 (l[k].next:Int)):=by obtain⟨b,a,e,d,c⟩:=Rd.at_flat Bk.len h (by omega) hk;exact⟨b,a,e,d,c 0 (by omega),c 1 (by omega),c 2 (by omega),c 3 (by omega),c 4 (by omega),c 5 (by omega)⟩
theorem RdI.at_{l:List Int}(h:RdI w B A l)(hk:k<l.length):
 ∃b a,A=some ⟨b,a,none⟩/\b<B/\w.cell? ⟨b,a+k,none⟩=some (.int .i64 l[k]):=by obtain⟨b,a,e,c,d⟩:=Rd.at_flat iZ h (by omega) hk;have:=d 0 (by omega);simp only[kxn,kxd] at this;exact⟨b,a,e,c,this⟩
theorem RdW.at_{l:List Nat}(h:RdW w B A l)(hk:k<l.length):
 ∃b a,A=some ⟨b,a,none⟩/\b<B/\w.cell? ⟨b,a+k,none⟩=some (.int .u64 (l[k]:Int)):=by obtain⟨b,a,e,c,d⟩:=Rd.at_flat aZ h (by omega) hk;have:=d 0 (by omega);simp only[kxn,kxd] at this;exact⟨b,a,e,c,this⟩
theorem bM(h:B<=w.heap.size):B<=(w.alloc o).heap.size:=by rw[kqn];omega
theorem jK{a:World}(h:Below B a w)(n:Nat):Below B a (w.drewN n):=⟨h.os,h.tape,h.output,h.size,h.block⟩
theorem mZ{b:Nat}{f:Nat->Value}(h:w.rowIs b t n f)(hb:Below B w w')(hlt:b<B):w'.rowIs b t n f:=h.of_block (hb.block b hlt)
theorem Gi{k:IntKind}{a b:Int}(h:a=b):Ending.returned (.int k a)=.returned (.int k b):=by rw[h]
theorem box_of{cs:Array Value}(hB:Below (w.heap.size+1) (w.alloc (.cells cs t)) w1):
 (∀i,w1.cell? ⟨w.heap.size,i,none⟩=cs[i]?)/\(∀i,w1.frozen? ⟨w.heap.size,i,none⟩=false)/\Below w.heap.size w w1/\w.heap.size<w1.heap.size:=by have a:w1.heap[w.heap.size]? = some (.cells cs t (0,0)):=(hB.block w.heap.size (by omega)).trans (heap_alloc_new w _);refine⟨λi=>cell_of_row w1 _ i cs t (0,0) a,λi=>by simp[World.frozen?,a],((kql _ _).alloc (kqg _) _).trans (hB.mono (by omega)),?_⟩;have:=hB.size;simp at this;omega
def Bx (w:World) (g:Nat) (t:TypeId) (cs:Array Value):Prop:=w.heap[g]? = some (.cells cs t (0,0))
section
variable {w w':World} {g B:Nat} {t:TypeId} {cs:Array Value}
theorem Bx.lt(h:Bx w g t cs):g<w.heap.size:=by
 rcases kq9 g w.heap.size with a|b
 .exact a
 unfold Bx at h;rw[kz8 b] at h;cases h
theorem Bx.cell(h:Bx w g t cs)(i:Nat):w.cell? ⟨g,i,none⟩=cs[i]?:=cell_of_row w g i cs t (0,0) h
theorem Bx.frozen(h:Bx w g t cs)(i:Nat):w.frozen? ⟨g,i,none⟩=false:=by unfold Bx at h;simp[World.frozen?,h]
theorem Bx.new(w:World)(t:TypeId)(cs:Array Value):Bx (w.alloc (.cells cs t)) w.heap.size t cs:=heap_alloc_new w _
theorem Bx.alloc(h:Bx w g t cs)(o:Obj):Bx (w.alloc o) g t cs:=(Below.heap_alloc w o g h.lt).trans h
theorem Bx.far(h:Bx w g t cs){p:Addr}(hp:g≠p.block)(u:Value):Bx (w.setCell p u) g t cs:=(kka w p u g hp).trans h
theorem Bx.up(h:Bx w g t cs)(hb:Below B w w')(hg:g<B):Bx w' g t cs:=(hb.block g hg).trans h
theorem Bx.set_(h:Bx w g t cs)(i:Nat)(u:Value):Bx (w.setCell ⟨g,i,none⟩ u) g t (cs.setIfInBounds i u):=by unfold Bx at h |-;simp[World.setCell,Array.getElem?_modify,h]
theorem Bx.of_new(hB:Below (w.heap.size+1) (w.alloc (.cells cs t)) w'):Bx w' w.heap.size t cs:=(Bx.new w t cs).up hB (by omega)
theorem Bx.c1(h:Bx w g t #[x]):w.cell? ⟨g,0,none⟩=some x/\w.frozen? ⟨g,0,none⟩=false/\g<w.heap.size:=⟨h.cell 0,h.frozen 0,h.lt⟩
theorem Bx.c2(h:Bx w g t #[x,y]):w.cell? ⟨g,0,none⟩=some x/\w.cell? ⟨g,1,none⟩=some y/\w.frozen? ⟨g,0,none⟩=false/\w.frozen? ⟨g,1,none⟩=false/\g<w.heap.size:=
 ⟨h.cell 0,h.cell 1,h.frozen 0,h.frozen 1,h.lt⟩
theorem Bx.c3{z:Value}(h:Bx w g t #[x,y,z]):w.cell? ⟨g,0,none⟩=some x/\w.cell? ⟨g,1,none⟩=some y/\w.cell? ⟨g,2,none⟩=some z /\
 w.frozen? ⟨g,0,none⟩=false/\w.frozen? ⟨g,1,none⟩=false/\w.frozen? ⟨g,2,none⟩=false/\g<w.heap.size:=
 ⟨h.cell 0,h.cell 1,h.cell 2,h.frozen 0,h.frozen 1,h.frozen 2,h.lt⟩
theorem Bx.c6{x0 x1 x2 x3 x4 x5:Value}(h:Bx w g t #[x0,x1,x2,x3,x4,x5]):w.cell? ⟨g,0,none⟩=some x0/\w.cell? ⟨g,1,none⟩=some x1/\w.cell? ⟨g,2,none⟩=some x2 /\
 w.cell? ⟨g,3,none⟩=some x3/\w.cell? ⟨g,4,none⟩=some x4/\w.cell? ⟨g,5,none⟩=some x5/\(∀i,w.frozen? ⟨g,i,none⟩=false)/\g<w.heap.size:=
 ⟨h.cell 0,h.cell 1,h.cell 2,h.cell 3,h.cell 4,h.cell 5,h.frozen,h.lt⟩
end
theorem au(hB:Below (w.heap.size+1) (w.alloc o) w1):Below w.heap.size w w1:=((kql _ _).alloc (kqg _) _).trans (hB.mono (by omega))
theorem bY(w:World)(cs:List Value)(t:TypeId):∀j u,cs[j]? = some u->(w.alloc (.cells cs.toArray t)).cell? ((⟨w.heap.size,0,none⟩:Addr).add j)=some u:=by
 intro j u a;have e:(⟨w.heap.size,0,none⟩:Addr).add j=⟨w.heap.size,j,none⟩:=by unfold Addr.add;split<;>simp_all
 rw[e,(Bx.new w t cs.toArray).cell j]
 simpa using a
theorem aw(hB:Below H w wr)(hH:H<=wr.heap.size)(hown:wr.ownsRow H e sz v n xs)(hg:(wr.alloc o).grownBy w1 v.ownBlock):Below H w w1:=
 (hB.alloc hH _).grown hg (bM hH) (λk a=>(hown.lt k a).1)
theorem bv(hB:Below H w wr)(hH:H<=wr.heap.size)(hown:wr.ownsRow H e sz v n xs)(hg:wr.grownBy w1 v.ownBlock):Below H w w1:=
 hB.grown hg hH (λk a=>(hown.lt k a).1)
theorem Bx.grown{cs:Array Value}{row:Option Nat}(h:Bx w g t cs)(hb:w.grownBy w' row)(hg:some g≠row):Bx w' g t cs:=(hb.block g h.lt hg).trans h
theorem aY(hown:w.ownsRow H e sz v n xs)(hg:g<H):some g≠v.ownBlock:=λh=>by have:=(hown.lt g h.symm).1;omega
theorem aE(hown:w.ownsRow H e sz v n xs):∃A c,v=.slice A n c:=by
 rcases hown.2 with⟨rfl,rfl⟩|⟨g,cap,cur,rfl,_⟩
 .exact ⟨none,0,rfl⟩
 exact⟨_,_,rfl⟩
theorem aj(h:w.ownsRow H e sz v n xs)(hb:Below B w w')(hB:w.heap.size<=B):w'.ownsRow H e sz v n xs:=by
 refine⟨h.1,?_⟩;rcases h.2 with i|⟨g,f,c,j,d,a,b⟩
 .exact .inl i
 exact .inr ⟨g,f,c,j,d,(hb.block g (by have:=(kjx.1 a).1;omega)).trans a,b⟩
theorem bP(f:α->List Value)(l:List α)(x:α):(l++[x]).flatMap f=l.flatMap f++f x:=by simp
structure Ch where
 A:Option Addr
 c:Nat
 l:List En
 deriving Inhabited
def Ch.cells (x:Ch):List Value:=[.slice x.A x.l.length x.c]
def RdC (w:World) (B:Nat) (A:Option Addr) (l:List Ch):Prop:=Rd w B A (l.flatMap Ch.cells)
theorem Ch.len(x:Ch):x.cells.length=1:=rfl
theorem RdC.at_{l:List Ch}(h:RdC w B A l)(hk:k<l.length):
 ∃b a,A=some ⟨b,a,none⟩/\b<B/\w.cell? ⟨b,a+k,none⟩=some (.slice l[k].A l[k].l.length l[k].c):=by obtain⟨b,a,e,d,f⟩:=Rd.at_flat Ch.len h (by omega) hk;have:=f 0 (by omega);simp only[kxn,kxd] at this;exact⟨b,a,e,d,this⟩
theorem aB{M:Nat}(h:w.ownsRow M e sz v n xs)(hH:H<=M):w.ownsRow H e sz v n xs:=by
 refine⟨h.1,?_⟩;rcases h.2 with d|⟨g,c,b,f,hb1,a⟩
 .exact .inl d
 exact .inr ⟨g,c,b,f,by omega,a⟩
theorem eQ{H':Nat}{e':TypeId}{sz' n':Nat}{v':Value}{xs':List Value}(h:w.ownsRow H e sz v n xs)(h':w.ownsRow H' e' sz' v' n' xs')(hne:e≠e'):v.ownBlock=none\/v.ownBlock≠v'.ownBlock:=by
 rcases h.2 with⟨rfl,_⟩|⟨g,cap,cur,rfl,_,b,_⟩
 .exact .inl rfl
 right;rcases h'.2 with⟨rfl,_⟩|⟨g',cap',cur',rfl,_,a,_⟩
 .simp[Value.ownBlock]
 simp only[Value.ownBlock,ne_eq,Option.some.injEq];rintro rfl;rw[b] at a;simp only[Option.some.injEq,Obj.cells.injEq] at a;exact hne a.2.1
theorem kV(f:α->List Value)(hf:∀x,(f x).length=1)(l:List α)(n:Nat):(l.take n).flatMap f=(l.flatMap f).take n:=by
 induction l generalizing n with
 | nil=>simp
 | cons x l ih =>
  have a:=hf x
  match hfx:f x,a with
  | [u],_ =>
   cases n with
   | zero=>simp
   | succ n=>simp[List.flatMap_cons,hfx,ih]
theorem nU(f:α->List Value)(hf:∀x,(f x).length=1)(l:List α)(n:Nat):(l.drop n).flatMap f=(l.flatMap f).drop n:=by
 induction l generalizing n with
 | nil=>simp
 | cons x l ih =>
  have a:=hf x
  match hfx:f x,a with
  | [u],_ =>
   cases n with
   | zero=>simp
   | succ n=>simp[List.flatMap_cons,hfx,ih]
def io (H:Nat) (err:Int) (out:List En) (e:Ending) (w':World):Prop:=∃A c,e=.returned (.tuple #[.slice A out.length c,.int .i64 err])/\w'.ownsRow H 89 2 (.slice A out.length c) out.length (out.flatMap En.cells)
theorem bu{err r:Int}{out:List En}(h1:err=r)(h2:out=[]):io H err out (.returned (.tuple #[.slice none 0 0,.int .i64 r])) w':=by subst h1 h2;exact⟨none,0,rfl,kq3 _ _ _ _⟩
def gk (l:List Bk) (k:Nat):Bk:=l[k]?.getD default
theorem bB(l:List Bk)(k:Nat)(h:k<l.length):gk l k=l[k]:=by simp[gk,h]
def Cs (b:Bk):Bool:=(b.kind==1||b.kind==2)&&((decide (2<=b.size)&&(decide (b.size<=2048)&&b.size%2==0))&&(decide (128<=b.at_)&&(b.at_%2==0&&decide (b.at_<=2048-b.size))))
def dr (l:List Bk):Nat->Int
 | 0=>128
 | k+1=>(gk l k).at_+(gk l k).size
def cA (l:List Bk):Nat->Bool
 | 0=>true
 | k+1=>cA l k&&(Cs (gk l k)&&(decide (k=0)||(gk l k).at_==dr l k))
def zJ (l:List Bk):Bool:=decide (l.length<=1024)&&cA l l.length
def bL (l:List Bk):Int:=if zJ l then 0 else 8
theorem eH(h:cA l n=true)(hk:k<=n):cA l k=true:=by
 induction n with
 | zero =>
  have:k=0:=by omega
  subst this;exact h
 | succ n ih =>
  rcases kq9 k (n+1) with a|a
  .simp only[cA,kqz] at h;exact ih h.1 (by omega)
  have:k=n+1:=by omega
  subst this;exact h
theorem dj(h:cA l n=true)(hk:k<n):Cs (gk l k)=true/\(k=0\/(gk l k).at_=dr l k):=by have:=eH h (show k+1<=n from hk);simp only[cA,kqz,kx7,kzz,kqx] at this;exact this.2
theorem s6(h:1024<l.length):bL l=8:=by
 have:¬ l.length<=1024:=by omega
 simp[bL,zJ,this]
theorem vS(h:cA l k=false)(hk:k<=l.length):bL l=8:=by
 have:cA l l.length=false:=by
  cases a:cA l l.length with
  | false=>rfl
  | true=>rw[eH a hk] at h;cases h
 simp[bL,zJ,this]
theorem re(h:l.length<=1024)(hk:cA l l.length=true):bL l=0:=by simp[bL,zJ,h,hk]
theorem cN(h:bL l=0):l.length<=1024/\cA l l.length=true:=by
 unfold bL zJ at h;split at h
 .rename_i h1
  simpa using h1
 simp at h
theorem wO(l:List Bk):bL l=0\/bL l=8:=by unfold bL;split<;>simp
theorem dH(b:Bk):Cs b=true↔(b.kind=1\/b.kind=2)/\2<=b.size/\b.size<=2048/\b.size%2=0/\128<=b.at_/\b.at_%2=0/\b.at_<=2048-b.size:=by
 simp only[Cs,kqz,kx7,kqx,kzz];constructor
 .rintro ⟨a,⟨d,f,c⟩,e,h,g⟩;exact⟨a,d,f,c,e,h,g⟩
 rintro ⟨a,d,f,c,e,h,g⟩;exact⟨a,⟨d,f,c⟩,e,h,g⟩
theorem zh(h:Cs (gk l k)=false):cA l (k+1)=false:=by simp[cA,h]
theorem xj(h0:k≠0)(h:(gk l k).at_≠dr l k):cA l (k+1)=false:=by
 have:((gk l k).at_==dr l k)=false:=by rw[kqi];exact h
 simp[cA,this,h0]
theorem oH(hp:cA l k=true)(h:Cs (gk l k)=true)(hn:k=0\/(gk l k).at_=dr l k):cA l (k+1)=true:=by
 rcases hn with a|a
 .subst a;simp[cA,h]
 simp[cA,hp,h,a]
theorem ox(h:cA l k=true):128<=dr l k/\dr l k<=2048:=by
 cases k with
 | zero=>simp[dr]
 | succ k =>obtain⟨a,_⟩:=dj h (kxs k);have:=(dH _).1 a;simp only[dr];omega
def aK (b:Bk):Bool:=b.kind==1&&b.mark
def bg:List Bk->Int->List Int
 | [],_=>[]
 | b::l,s=>if aK b then s::bg l (s+b.size) else 0::bg l s
def aI:List Bk->Int->Int
 | [],s=>s
 | b::l,s=>if aK b then aI l (s+b.size) else aI l s
def fT:List Bk->Int
 | []=>0
 | b::l=>if aK b then fT l else b.size+fT l
def nC (l:List Bk):Int:=if l.length=0 then 2048 else (gk l 0).at_
def dD (l:List Bk) (s:Int):Int:=if bL l=0 then (if s<128 then 2 else if nC l<s then 2 else if s%2=0 then 0 else 2) else 8
theorem cI(l:List Bk)(s:Int):(bg l s).length=l.length:=by
 induction l generalizing s with
 | nil=>rfl
 | cons b l ih=>simp only[bg];split<;>simp[ih]
theorem fU(a b:List Bk)(s:Int):aI (a++b) s=aI b (aI a s):=by
 induction a generalizing s with
 | nil=>rfl
 | cons x a ih=>simp only[kz0,aI];split<;>exact ih _
theorem iU(a b:List Bk)(s:Int):bg (a++b) s=bg a s++bg b (aI a s):=by
 induction a generalizing s with
 | nil=>rfl
 | cons x a ih=>simp only[kz0,bg,aI];split<;>simp[ih]
theorem pY(a b:List Bk):fT (a++b)=fT a+fT b:=by
 induction a with
 | nil=>simp[fT]
 | cons x a ih=>simp only[kz0,fT];split<;>omega
theorem gK(h:k<l.length)(s:Int):aI (l.take (k+1)) s=if aK l[k] then aI (l.take k) s+l[k].size else aI (l.take k) s:=by rw[kqp h,fU];rfl
theorem kH(h:k<l.length)(s:Int):bg (l.take (k+1)) s=bg (l.take k) s++[if aK l[k] then aI (l.take k) s else 0]:=by rw[kqp h,iU];simp only[bg];split<;>rfl
theorem sK(h:k<l.length):fT (l.take (k+1))=if aK l[k] then fT (l.take k) else fT (l.take k)+l[k].size:=by rw[kqp h,pY];simp only[fT];split<;>omega
def nS (l:List Bk) (k:Nat):Int:=if k=0 then 0 else dr l k-(gk l 0).at_
theorem oX(h:cA l k=true)(hk:k<=l.length)(s:Int):0<=aI (l.take k) s-s/\0<=fT (l.take k)/\(aI (l.take k) s-s)+fT (l.take k)=nS l k/\nS l k<=1920:=by
 induction k with
 | zero=>simp[aI,fT,nS]
 | succ k ih =>
  have a:k<l.length:=by omega
  obtain⟨i1,i2,i3,i4⟩:=ih (eH h (kxe k)) (by omega);obtain⟨d,b⟩:=dj h (kxs k);have d:=(dH _).1 d;have hb0:=(dH _).1 (dj h (Nat.succ_pos k)).1;rw[gK a,sK a];have e:nS l (k+1)=nS l k+(gk l k).size:=by
   unfold nS;rw[if_neg (Nat.succ_ne_zero k),show dr l (k+1)=(gk l k).at_+(gk l k).size from rfl];by_cases c:k=0
   .subst c;rw[if_pos rfl];omega
   rw[if_neg c];rcases b with b|b
   .exact absurd b c
   omega
  have f:nS l (k+1)<=1920:=by unfold nS;rw[if_neg (Nat.succ_ne_zero k),show dr l (k+1)=(gk l k).at_+(gk l k).size from rfl];omega
  rw[e] at f |-;rw[<-bB l k a];split<;>omega
theorem yx(h:bL l=0):nC l<=2048:=by
 unfold nC;split
 .omega
 have:=(dH _).1 (dj (cN h).2 (show 0<l.length by omega)).1;omega
theorem kC(h:bL l=0)(hk:k<=l.length)(hs:128<=s)(hm:s<=nC l):128<=aI (l.take k) s/\aI (l.take k) s<=2048:=by
 obtain⟨h1,a⟩:=cN h;have hmb:=yx h;obtain⟨i1,i2,c,i4⟩:=oX (eH a hk) hk s;refine⟨by omega,?_⟩;by_cases b:k=0
 .subst b;simp[aI];omega
 have hn:=(ox (eH a hk)).2;have d:l.length≠0:=by omega
 simp only[nS,b,if_false] at c;simp only[nC,d,if_false] at hm;omega
theorem yY{xs:Int}(hx:gk l k=⟨xa,xs,xk,xt,xm,xn⟩)(hn:dr l k=nx)(h:¬ ((xk=1\/xk=2)/\2<=xs/\xs<=2048/\xs%2=0/\128<=xa/\xa%2=0/\xa<=2048-xs/\(k=0\/xa=nx))):cA l (k+1)=false:=by
 by_cases b:Cs (gk l k)=true
 .have a:=(dH _).1 b;rw[hx] at a;dsimp only at a;refine xj (by omega) ?_;rw[hx,hn];dsimp only;omega
 exact zh (by cases hq:Cs (gk l k)<;>simp_all)
theorem tG{xs:Int}(hx:gk l k=⟨xa,xs,xk,xt,xm,xn⟩)(hn:dr l k=nx)(hp:cA l k=true)(h:(xk=1\/xk=2)/\2<=xs/\xs<=2048/\xs%2=0/\128<=xa/\xa%2=0/\xa<=2048-xs/\(k=0\/xa=nx)):cA l (k+1)=true:=by
 refine oH hp ((dH _).2 ?_) ?_
 .rw[hx];dsimp only;omega
 rw[hx,hn];dsimp only;omega
theorem Gw(h:bL l≠0):dD l s=bL l:=by
 rcases wO l with a|a
 .exact absurd a h
 simp[dD,a]
theorem Hu(h:bL l=0)(h2:s<128\/nC l<s\/s%2≠0):dD l s=2:=by
 unfold dD;rw[if_pos h];by_cases a:s<128
 .rw[if_pos a]
 rw[if_neg a];by_cases b:nC l<s
 .rw[if_pos b]
 rw[if_neg b,if_neg (by omega)]
theorem yQ(h:bL l=0)(h2:128<=s/\s<=nC l/\s%2=0):dD l s=0:=by unfold dD;rw[if_pos h,if_neg (by omega),if_neg (by omega),if_pos h2.2.2]
theorem dT(h:dD l s=0):bL l=0/\128<=s/\s<=nC l/\s%2=0:=by
 unfold dD at h;split at h
 .split at h
  .simp at h
  split at h
  .simp at h
  split at h
  .exact ⟨by assumption,by omega,by omega,by assumption⟩
  simp at h
 simp at h
theorem rV(h:bL l=0)(hm:s<=nC l)(hk:k<l.length):aI (l.take k) s<=(gk l k).at_:=by
 obtain⟨h1,b⟩:=cN h;obtain⟨i1,i2,d,i4⟩:=oX (eH b (kjq hk)) (kjq hk) s;have e:l.length≠0:=by omega
 simp only[nC,e,if_false] at hm;by_cases a:k=0
 .subst a;simp[aI];exact hm
 simp only[nS,a,if_false] at d;rcases (dj b hk).2 with c|c
 .exact absurd c a
 omega
theorem tD(hk:k<l.length):(bg l s)[k]? = some (if aK (gk l k) then aI (l.take k) s else 0):=by
 have a:=kH hk s;have b:bg l s=bg (l.take (k+1)) s++bg (l.drop (k+1)) (aI (l.take (k+1)) s):=by rw[<-iU,kxo]
 have c:(bg (l.take k) s).length=k:=by rw[cI,kq6];omega
 rw[b,a,kkj,kxj (by omega),c,bB l k hk];simp
def ER (s b:Nat):Nat:=((s ^^^ b)*1099511628211)%18446744073709551616
def iD (w i:Nat):Nat:=w/256 ^ i%256
def BM (s w:Nat):Nat->Nat
 | 0=>s
 | k+1=>ER (BM s w k) (iD w k)
def fnvW (s w:Nat):Nat:=BM s w 8
def a8 (s:Nat):List Nat->Nat
 | []=>s
 | w::l=>a8 (fnvW s w) l
def gc (w:Nat):Nat:=fnvW 14695981039346656037 w
theorem rk(w i:Nat):iD w i<256:=kz3 _ (by omega)
theorem GI(s b:Nat):ER s b<18446744073709551616:=kz3 _ (by omega)
theorem sD{s:Nat}(hs:s<18446744073709551616)(w k:Nat):BM s w k<18446744073709551616:=by
 cases k with
 | zero=>exact hs
 | succ k=>exact GI _ _
theorem Hv{s:Nat}(hs:s<18446744073709551616)(w:Nat):fnvW s w<18446744073709551616:=sD hs w 8
theorem jg{s:Nat}(hs:s<18446744073709551616)(l:List Nat):a8 s l<18446744073709551616:=by
 induction l generalizing s with
 | nil=>exact hs
 | cons w l ih=>exact ih (Hv hs w)
theorem nP(s:Nat)(a b:List Nat):a8 s (a++b)=a8 (a8 s a) b:=by
 induction a generalizing s with
 | nil=>rfl
 | cons w a ih=>exact ih _
theorem lA{l:List Nat}(h:k<l.length)(s:Nat):a8 s (l.take (k+1))=fnvW (a8 s (l.take k)) l[k]:=by rw[kqp h,nP];rfl
theorem Ig(s b:Nat)(hb:b<256):s-s%256+((s%256) ^^^ b)=s ^^^ b:=by
 have c:(s%256) ^^^ b<2 ^ 8:=Nat.xor_lt_two_pow (kz3 _ (by omega)) hb;have d:s-s%256=2 ^ 8*(s/256):=by have:=kvg s 256;omega
 apply Nat.eq_of_testBit_eq;intro j;rw[d,Nat.testBit_two_pow_mul_add _ c,Nat.testBit_xor];split
 .rename_i hj;rw[Nat.testBit_xor,show (256:Nat)=2 ^ 8 from rfl,Nat.testBit_mod_two_pow];simp[hj]
 rename_i hj;have a:b.testBit j=false:=Nat.testBit_lt_two_pow (kxv hb (by
  have:2 ^ 8<=2 ^ j:=kjc (by omega) (by omega)
  simpa using this))
 rw[Nat.testBit_xor,a,Bool.xor_false,show (256:Nat)=2 ^ 8 from rfl,<-Nat.shiftRight_eq_div_pow,Nat.testBit_shiftRight];congr 1;omega
def iF (b:Bk):Bool:=(decide (2<=b.size)&&b.size%2==0)&&((b.kind==1&&(decide (0<=b.typ)&&(decide (b.typ<8)&&decide (b.size<=10))))||(b.kind==2&&(b.typ==0&&(!b.mark&&decide (b.size<=1920)))))
theorem bn(b:Bk):iF b=true↔(2<=b.size/\b.size%2=0)/\(b.kind=1/\0<=b.typ/\b.typ<8/\b.size<=10\/b.kind=2/\b.typ=0/\b.mark=false/\b.size<=1920):=by simp only[iF,kqz,kx7,kqx,kzz,kjf]
def nD (m:Bool):Nat:=if m then 1 else 0
def ks (b:Bk):Nat:=b.kind.toNat+nD b.mark*256+b.typ.toNat*512+b.size.toNat*65536
def cg (b:Bk):Nat:=ks b+gc (ks b)%4294967296*4294967296
def ah (w:Nat):Bk:=⟨0,(w/65536%65536:Nat),(w%256:Nat),(w/512%128:Nat),w/256%2==1,0⟩
def az (w:Nat):Bool:=iF (ah w)&&cg (ah w)==w
theorem yP(m:Bool):nD m<=1:=by cases m<;>simp[nD]
theorem sR(h:iF b=true):b.kind.toNat<256/\b.typ.toNat<128/\b.size.toNat<65536/\0<=b.kind/\0<=b.typ/\0<=b.size/\b.size<=1920:=by have:=(bn b).1 h;omega
theorem t9(h:iF b=true):ks b<4294967296:=by obtain⟨h1,h2,h3,-⟩:=sR h;have:=yP b.mark;unfold ks;omega
theorem pN(h:iF b=true):cg b<18446744073709551616:=by have h1:=t9 h;have h2:gc (ks b)%4294967296<4294967296:=kz3 _ (by omega);unfold cg;omega
theorem jf(h:iF b=true):ah (cg b)=⟨0,b.size,b.kind,b.typ,b.mark,0⟩:=by
 obtain⟨h1,h2,h3,h4,h5,h6,h7⟩:=sR h;have hm:=yP b.mark;unfold ah cg;generalize gc (ks b)%4294967296=t;have hl:ks b=b.kind.toNat+nD b.mark*256+b.typ.toNat*512+b.size.toNat*65536:=rfl;generalize ks b=q at *;generalize a:nD b.mark=m at *;have c:(q+t*4294967296)/65536%65536=b.size.toNat:=by omega
 have d:(q+t*4294967296)%256=b.kind.toNat:=by omega
 have f:(q+t*4294967296)/512%128=b.typ.toNat:=by omega
 have e:(q+t*4294967296)/256%2=m:=by omega
 rw[c,d,f,e];congr 1
 .omega
 .omega
 .omega
 rw[<-a];cases b.mark<;>simp[nD]
theorem xi{a:Bk}(h1:a.size=b.size)(h2:a.kind=b.kind)(h3:a.typ=b.typ)(h4:a.mark=b.mark):cg a=cg b/\iF a=iF b:=by unfold cg ks iF;rw[h1,h2,h3,h4];exact⟨rfl,rfl⟩
theorem jn(h:iF b=true):az (cg b)=true:=by unfold az;rw[jf h];have:=xi (a:=⟨0,b.size,b.kind,b.typ,b.mark,0⟩) (b:=b) rfl rfl rfl rfl;rw[this.1,this.2,h];simp
def wd (ws:List Nat) (i:Nat):Nat:=ws[i]?.getD 0
def bkAt (ws:List Nat) (i:Nat):Bk:={ ah (wd ws i) with at_:=(i:Nat),next:=wd ws (i+1) }
def stands (ws:List Nat) (i:Nat):Bool:=az (wd ws i)&&decide ((ah (wd ws i)).size<=(ws.length:Int)-i)
def szAt (ws:List Nat) (i:Nat):Nat:=wd ws i/65536%65536
def nA (ws:List Nat):Nat->Nat->Option (List Bk)
 | 0,i=>if ws.length<=i then some [] else none
 | f+1,i=>if ws.length<=i then some [] else if stands ws i then (nA ws f (i+szAt ws i)).map (bkAt ws i :: ·) else none
def blocks (ws:List Nat) (i:Nat):Option (List Bk):=nA ws ws.length i
theorem aC(h:stands ws i=true):2<=szAt ws i/\szAt ws i%2=0/\i+szAt ws i<=ws.length:=by unfold stands az at h;simp only[kqz,kzz] at h;obtain⟨⟨a,_⟩,b⟩:=h;have c:=(bn _).1 a;simp only[ah] at b c;unfold szAt;omega
theorem nX{f:Nat}(h:ws.length-i<=f):∀ {g:Nat},ws.length-i<=g->nA ws f i=nA ws g i:=by
 induction f generalizing i with
 | zero =>
  intro g _;cases g with
  | zero=>rfl
  | succ g=>simp only[nA];rw[if_pos (by omega),if_pos (by omega)]
 | succ f ih =>
  intro g hg;cases g with
  | zero=>simp only[nA];rw[if_pos (by omega),if_pos (by omega)]
  | succ g =>
   simp only[nA];split
   .rfl
   split
   .rename_i hs;have:=aC hs;rw[ih (i:=i+szAt ws i) (by omega) (g:=g) (by omega)]
   rfl
theorem ay(h:ws.length<=i):blocks ws i=some []:=by
 unfold blocks;cases a:ws.length with
 | zero=>simp[nA,a]
 | succ n=>rw[nA,if_pos (by omega)]
theorem aG(h:i<ws.length)(hs:stands ws i=true):blocks ws i=(blocks ws (i+szAt ws i)).map (bkAt ws i :: ·):=by have hsz:=aC hs;unfold blocks;rw[nX (f:=ws.length) (i:=i) (by omega) (g:=ws.length+1) (by omega),nA,if_neg (by omega),if_pos hs]
theorem cF(h:i<ws.length)(hs:stands ws i=false):blocks ws i=none:=by unfold blocks;rw[nX (f:=ws.length) (i:=i) (by omega) (g:=ws.length+1) (by omega),nA,if_neg (by omega),if_neg (by rw[hs];exact Bool.false_ne_true)]
def cP (a:Nat):List Nat:=(List.range (a%256)).map λi=>a/4 ^ (i+4)%4
def mm:List Nat->Nat->Nat
 | [],_=>0
 | k::l,j=>k*4 ^ j+mm l (j+1)
def gx (l:List Nat):Nat:=l.length+mm l 4
def dd (l:List Nat):Bool:=l.all λk=>decide (1<=k)&&decide (k<=3)
def b8 (l:List Nat):Int:=if 8<l.length then 4 else if dd l=true then 0 else 8
def aP (n:Nat):Nat:=2+(n+1)/2*2
def bN (a b:Nat):Bool:=(decide (a%256<=8)&&dd (cP a))&&(gx (cP a)==a&&gc a==b)
theorem ei(a:Nat):(cP a).length=a%256:=by simp[cP]
theorem ph(a i:Nat)(h:i<a%256):(cP a)[i]? = some (a/4 ^ (i+4)%4):=by simp[cP,h]
theorem mK(a b:List Nat)(j:Nat):mm (a++b) j=mm a j+mm b (j+a.length):=by
 induction a generalizing j with
 | nil=>simp[mm]
 | cons k a ih=>simp only[kz0,mm,ih,kzc];rw[show j+1+a.length=j+(a.length+1) by omega];omega
theorem sA(l:List Nat)(j:Nat)(h:∀k∈l,k<=3):mm l j+4 ^ j<=4 ^ (j+l.length):=by
 induction l generalizing j with
 | nil=>simp[mm]
 | cons k l ih =>have a:=ih (j+1) (λk c=>h k (by simp[c]));have b:=h k (by simp);simp only[mm,kzc];rw[show j+(l.length+1)=j+1+l.length by omega];have h3:k*4 ^ j<=3*4 ^ j:=kjb _ b;rw[kji] at a;omega
theorem cv(l:List Nat):dd l=true↔∀k∈l,1<=k/\k<=3:=by simp[dd]
theorem AE{l:List Nat}(hk:k<l.length)(h:l[k]<1\/3<l[k]):dd l=false:=by
 cases a:dd l with
 | false=>rfl
 | true=>have:=(cv l).1 a l[k] (kqm hk);omega
theorem tJ{l:List Nat}(h:8<l.length):b8 l=4:=by simp[b8,h]
theorem lk{l:List Nat}(h:l.length<=8)(hk:dd l=false):b8 l=8:=by
 have:¬ 8<l.length:=by omega
 simp[b8,this,hk]
theorem je{l:List Nat}(h:l.length<=8)(hk:dd l=true):b8 l=0:=by
 have:¬ 8<l.length:=by omega
 simp[b8,this,hk]
theorem jB{l:List Nat}(h:b8 l=0):l.length<=8/\dd l=true:=by
 unfold b8 at h;split at h
 .simp at h
 split at h
 .exact ⟨by omega,by assumption⟩
 simp at h
theorem Aa{l:List Nat}(h:l.length<=8)(hk:dd l=true):gx l<16777216:=by
 have h1:=sA l 4 (λk a=>((cv l).1 hk k a).2);have h2:4 ^ (4+l.length)<=4 ^ 12:=kjc (by omega) (by omega);have h3:(4:Nat) ^ 12=16777216:=by decide
 have h4:(4:Nat) ^ 4=256:=by decide
 unfold gx;omega
def tyA (b:Bk):Nat:=96+2*b.typ.toNat
def cD (ws:List Nat) (b:Bk):Bool:=bN (wd ws (tyA b)) (wd ws (tyA b+1))&&b.size==((aP (wd ws (tyA b)%256):Nat):Int)
def dm (ws:List Nat) (b:Bk):Bool:=b.kind != 1||cD ws b
def bJ (ws:List Nat):List Bk->Int->Bool
 | [],_=>true
 | b::l,s=>dm ws b&&(if aK b then ((b.next:Int)==s)&&bJ ws l (s+b.size) else bJ ws l s)
def aq:List Bk->Int->List (Int × Int)
 | [],_=>[]
 | b::l,s=>if aK b then (b.at_,s)::aq l (s+b.size) else aq l s
theorem lw(ws:List Nat)(a b:List Bk)(s:Int):bJ ws (a++b) s=(bJ ws a s&&bJ ws b (aI a s)):=by
 induction a generalizing s with
 | nil=>simp[bJ,aI]
 | cons x a ih =>
  simp only[kz0,bJ,aI];split
  .rw[ih];simp only[Bool.and_assoc]
  rw[ih];simp only[Bool.and_assoc]
theorem ff(a b:List Bk)(s:Int):aq (a++b) s=aq a s++aq b (aI a s):=by
 induction a generalizing s with
 | nil=>rfl
 | cons x a ih=>simp only[kz0,aq,aI];split<;>simp[ih]
theorem nZ(h:k<l.length)(s:Int):bJ ws (l.take (k+1)) s=(bJ ws (l.take k) s&&(dm ws l[k]&&(!aK l[k]||(l[k].next:Int)==aI (l.take k) s))):=by rw[kqp h,lw];simp only[bJ];cases aK l[k]<;>simp
theorem vP(h:k<l.length)(s:Int):aq (l.take (k+1)) s=aq (l.take k) s++(if aK l[k] then [(l[k].at_,aI (l.take k) s)] else []):=by rw[kqp h,ff];simp only[aq]
theorem oE(h:bJ ws l s=true)(k:Nat):bJ ws (l.take k) s=true:=by rw[<-kxo k l,lw,kqz] at h;exact h.1
theorem qo(h:bJ ws (l.take k) s=false):bJ ws l s=false:=by
 cases a:bJ ws l s with
 | false=>rfl
 | true=>rw[oE a k] at h;cases h
theorem Dd(h:bJ ws l s=true)(hk:k<l.length):dm ws l[k]=true/\(aK l[k]=true->(l[k].next:Int)=aI (l.take k) s):=by
 have a:=oE h (k+1);rw[nZ hk] at a;simp only[kqz,kx7,kjf,kqx] at a;exact⟨a.2.1,λc=>by
  rcases a.2.2 with b|b
  .rw[c] at b;cases b
  exact b⟩
theorem cV(P:Nat->List Bk->Prop)(h0:∀i,ws.length<=i->P i [])(h1:∀i l,i<ws.length->stands ws i=true->blocks ws (i+szAt ws i)=some l->P (i+szAt ws i) l->P i (bkAt ws i::l)):
 ∀i l,blocks ws i=some l->P i l:=by
 have c:∀n i l,ws.length-i<=n->blocks ws i=some l->P i l:=by
  intro n
  induction n with
  | zero =>intro i l e h;rw[ay (by omega)] at h;cases h;exact h0 i (by omega)
  | succ n ih =>
   intro i l e h;by_cases d:ws.length<=i
   .rw[ay d] at h;cases h;exact h0 i d
   cases a:stands ws i with
   | false=>rw[cF (by omega) a] at h;cases h
   | true =>
    have hsz:=aC a;rw[aG (by omega) a] at h;cases b:blocks ws (i+szAt ws i) with
    | none=>rw[b] at h;cases h
    | some l' =>rw[b] at h;simp only[kzk,Option.some.injEq] at h;subst h;exact h1 i l' (by omega) a b (ih _ _ (by omega) b)
 exact λi l h=>c _ i l (kqg _) h
theorem ab(ws:List Nat)(i:Nat):(bkAt ws i).at_=(i:Int):=rfl
theorem aV(ws:List Nat)(i:Nat):(bkAt ws i).size=((szAt ws i:Nat):Int):=rfl
theorem eJ(h:stands ws i=true):iF (ah (wd ws i))=true:=by unfold stands az at h;simp only[kqz] at h;exact h.1.1
theorem gV(b:Bk)(l:List Bk)(k:Nat):gk (b::l) (k+1)=gk l k:=by simp[gk]
theorem mx(b:Bk)(l:List Bk):gk (b::l) 0=b:=rfl
theorem yy(hn:ws.length<=2048)(h:stands ws i=true)(h1:128<=i)(h2:i%2=0):Cs (bkAt ws i)=true:=by have h3:=(bn _).1 (eJ h);have h4:=aC h;rw[dH];have a:(bkAt ws i).kind=(ah (wd ws i)).kind:=rfl;have e2:(ah (wd ws i)).size=((szAt ws i:Nat):Int):=rfl;rw[ab,aV,a];omega
theorem bq(hn:ws.length<=2048):∀i l,blocks ws i=some l->128<=i->i%2=0->i<=ws.length ->
 2*l.length+i<=ws.length/\∀k,k<l.length->Cs (gk l k)=true/\(k=0->(gk l k).at_=(i:Int))/\(0<k->(gk l k).at_=(gk l (k-1)).at_+(gk l (k-1)).size):=by
 refine cV _ (λi _ _ _ _=>⟨by simp;omega,λk a=>by simp at a⟩) (λi l hi c hb n d f _=>?_);have b:=aC c;obtain⟨h3,e⟩:=n (by omega) (by omega) b.2.2;refine⟨by rw[kzc];omega,λk a=>?_⟩;cases k with
 | zero=>exact⟨yy hn c d f,λ_=>rfl,λh=>absurd h (by omega)⟩
 | succ k =>
  rw[kzc] at a;obtain⟨g,m,j⟩:=e k (by omega);rw[gV];refine⟨g,λh=>absurd h (by omega),λ_=>?_⟩;rw[kkb];cases k with
  | zero=>rw[mx,m rfl,ab,aV];omega
  | succ k=>rw[gV];exact j (by omega)
theorem n8(hn:ws.length<=2048)(h:blocks ws i=some l)(h1:128<=i)(h2:i%2=0)(h3:i<=ws.length):bL l=0:=by
 obtain⟨h4,c⟩:=bq hn i l h h1 h2 h3;refine re (by omega) ?_;have b:∀k,k<=l.length->cA l k=true:=by
  intro k
  induction k with
  | zero=>intro _;rfl
  | succ k ih =>
   intro hk;obtain⟨d,g2,e⟩:=c k (by omega);refine oH (ih (by omega)) d ?_;rcases kx6 k with a|a
   .exact .inl a
   right;obtain⟨m,rfl⟩:∃m,k=m+1:=⟨k-1,by omega⟩;exact e a
 exact b _ (kqg _)
theorem bZ(h:blocks ws i=some l)(hi:i<ws.length):0<l.length/\gk l 0=bkAt ws i/\stands ws i=true/\blocks ws (i+szAt ws i)=some (l.drop 1):=by
 cases b:stands ws i with
 | false=>rw[cF hi b] at h;cases h
 | true =>
  rw[aG hi b] at h;cases a:blocks ws (i+szAt ws i) with
  | none=>rw[a] at h;cases h
  | some l' =>rw[a] at h;simp only[kzk,Option.some.injEq] at h;subst h;exact⟨by simp,rfl,rfl,by simp⟩
theorem kz(hn:ws.length<=2048)(h:blocks ws i=some l)(h1:128<=i)(h2:i%2=0)(h3:i<=ws.length)(hs:128<=s)(hs2:s%2=0)(hs3:s<=(i:Int)):dD l s=0:=by
 refine yQ (n8 hn h h1 h2 h3) ⟨hs,?_,hs2⟩;unfold nC;split
 .omega
 rename_i hl;have:=(bq hn i l h h1 h2 h3).2 0 (by omega);rw[this.2.1 rfl];exact hs3
theorem jd:∀ {l:List Bk} {s:Int} {p:Nat},p<(aq l s).length->∃k,∃h:k<l.length,aK l[k]=true/\(aq l s)[p]? = some (l[k].at_,aI (l.take k) s)/\(aq (l.take k) s).length=p:=by
 intro l
 induction l with
 | nil=>intro s p h;simp[aq] at h
 | cons b l ih =>
  intro s p h;cases a:aK b with
  | true =>
   simp only[aq,a,if_true] at h |-;cases p with
   | zero=>exact⟨0,by simp,a,by simp[aI],rfl⟩
   | succ p =>
    obtain⟨k,f,c,d,e⟩:=ih (s:=s+b.size) (p:=p) (by simpa using h);refine⟨k+1,by simpa using f,c,?_,?_⟩
    .simp only[kkv,d,kqb,kjg,aI,a,if_true]
    simp only[kjg,aq,a,if_true,kzc,e]
  | false =>
   simp only[aq,a,kzp,if_false] at h |-;obtain⟨k,f,c,d,e⟩:=ih (s:=s) (p:=p) h;refine⟨k+1,by simpa using f,c,?_,?_⟩
   .simp only[d,kqb,kjg,aI,a,kzp,if_false]
   simp only[kjg,aq,a,kzp,if_false,e]
theorem lE(ws:List Nat)(j v i:Nat):wd (ws.set j v) i=if j=i/\j<ws.length then v else wd ws i:=by
 unfold wd;by_cases h:j=i
 .subst h;by_cases a:j<ws.length
  .simp[a]
  simp[a]
 simp[h]
theorem gi(ws:List Nat)(v:Nat)(h:j≠i):wd (ws.set j v) i=wd ws i:=by rw[lE,if_neg (λa=>h a.1)]
def my (j v:Nat) (b:Bk):Bk:=if b.at_+1=(j:Int) then { b with next:=v } else b
theorem kO(v:Nat)(h:j≠i):stands (ws.set j v) i=stands ws i/\szAt (ws.set j v) i=szAt ws i:=by unfold stands szAt;rw[gi ws v h,kze];exact⟨rfl,rfl⟩
theorem uL{v:Nat}(h:j≠i)(hj:j<ws.length):bkAt (ws.set j v) i=my j v (bkAt ws i):=by
 unfold bkAt my;rw[gi ws v h,lE];by_cases e:j=i+1
 .rw[if_pos ⟨e,hj⟩,if_pos (by dsimp only;omega)]
 rw[if_neg (λa=>e a.1),if_neg (by dsimp only;omega)]
theorem wK{v:Nat}(hj:j%2=1)(hl:j<ws.length):∀i,i%2=0->blocks (ws.set j v) i=(blocks ws i).map (List.map (my j v)):=by
 have b:∀n i,ws.length-i<=n->i%2=0->blocks (ws.set j v) i=(blocks ws i).map (List.map (my j v)):=by
  intro n
  induction n with
  | zero=>intro i d _;rw[ay (by rw[kze];omega),ay (by omega)];rfl
  | succ n ih =>
   intro i d h2;by_cases hi:ws.length<=i
   .rw[ay (by rw[kze];omega),ay (by omega)];rfl
   obtain⟨c,e⟩:=kO (ws:=ws) (j:=j) (i:=i) v (by omega);cases a:stands ws i with
   | false=>rw[cF (by rw[kze];omega) (by rw[c,a]),cF (by omega) a];rfl
   | true =>have hsz:=aC a;rw[aG (by rw[kze];omega) (by rw[c,a]),aG (by omega) a,e,ih _ (by omega) (by omega),uL (by omega) hl];cases blocks ws (i+szAt ws i)<;>rfl
 exact λi=>b _ i (kqg _)
theorem kQ(h:bL l=0){m:Nat}(hk:k<l.length)(hm:m<k):(gk l m).at_<(gk l k).at_:=by
 obtain⟨_,a⟩:=cN h
 induction k with
 | zero=>omega
 | succ k ih =>
  have d:=dj a (show k+1<l.length from hk);have h4:=(dH _).1 (dj a (show k<l.length by omega)).1;have e:(gk l (k+1)).at_=(gk l k).at_+(gk l k).size:=by
   rcases d.2 with c|c
   .omega
   exact c
  rcases kq9 m k with b|b
  .have:=ih (by omega) b;omega
  have:m=k:=by omega
  subst this;omega
theorem wH(h:bL l=0){v:Nat}(hk:k<l.length)(hj:l[k].at_+1=(j:Int)):l.map (my j v)=l.set k { l[k] with next:=v }:=by
 apply List.ext_getElem (by simp);intro i a h2;have a:i<l.length:=by simpa using a
 rw[kj9,List.getElem_set];unfold my;by_cases e:k=i
 .subst e;rw[if_pos hj,if_pos rfl]
 rw[if_neg e];rw[if_neg ?_];intro h3;have e2:(gk l i).at_=(gk l k).at_:=by rw[bB l i a,bB l k hk];omega
 rcases kvh e with b|b
 .have:=kQ h a b;omega
 have:=kQ h hk b;omega
theorem vU{ws':List Nat}(hf:∀b∈l,dm ws' b=dm ws b)(hf2:∀b v,b∈l->dm ws' { b with next:=v }=dm ws b):∀ {s:Int},bJ ws l s=true->∀ {k:Nat} (e:k<l.length),aK l[k]=true->∀v:Nat,
 bJ ws' (l.set k { l[k] with next:=v }) s=((v:Int)==aI (l.take k) s)/\aq (l.set k { l[k] with next:=v }) s=aq l s:=by
 induction l with
 | nil=>intro s _ k e;simp at e
 | cons b l ih =>
  intro s h k e d v;have i:=hf b (by simp);have g:=hf2 b v (by simp);have f:∀(l:List Bk),(∀b∈l,dm ws' b=dm ws b)->∀s,bJ ws' l s=bJ ws l s:=by
   intro l d
   induction l with
   | nil=>intro s;rfl
   | cons c l ih2 =>intro s;simp only[bJ];rw[d c (by simp),ih2 (λb a=>d b (by simp[a])),ih2 (λb a=>d b (by simp[a]))]
  cases k with
  | zero =>have d:aK b=true:=d;have m:aK { b with next:=v }=true:=d;simp only[bJ,d,if_true,kqz] at h;simp only[kqf,kqc,bJ,m,if_true,aq,d,kvl,aI,g,h.1,kzx];rw[f l (λb a=>hf b (by simp[a])),h.2.2,Bool.and_true];exact⟨rfl,trivial⟩
  | succ k =>
   have e:k<l.length:=by simpa using e
   have d:aK l[k]=true:=d;cases a:aK b with
   | true =>simp only[bJ,a,if_true,kqz] at h;obtain⟨j,n⟩:=ih (λb a=>hf b (by simp[a])) (λb v a=>hf2 b v (by simp[a])) h.2.2 e d v;simp only[kqd,kqb,bJ,a,if_true,aq,kjg,aI,i,h.1,h.2.1,kzx,j,n];exact⟨trivial,trivial⟩
   | false =>simp only[bJ,a,kzp,if_false,kqz] at h;obtain⟨j,n⟩:=ih (λb a=>hf b (by simp[a])) (λb v a=>hf2 b v (by simp[a])) h.2 e d v;simp only[kqd,kqb,bJ,a,kzp,if_false,aq,kjg,aI,i,h.1,kzx,j,n];exact⟨trivial,trivial⟩
def gt (n:Nat) (f s:Int):Bool:=(f%2 != 0)||((s%2 != 0)||(decide (s<128)||(decide (f<s)||decide ((n:Int)<f))))
def rW (n:Nat):Bool:=decide (256<=n)&&(decide (n<=2048)&&n%8==0)
theorem fY(h:gt n f s=false):f%2=0/\s%2=0/\128<=s/\s<=f/\f<=(n:Int):=by simp only[gt,kzw,kqq,kqh] at h;omega
theorem kq(n:Nat)(f s:Int):gt n f s=true↔¬ (f%2=0/\s%2=0/\128<=s/\s<=f/\f<=(n:Int)):=by
 constructor
 .intro h h2;have:gt n f s=false:=by simp only[gt,kzw,kqq,kqh];omega
  rw[this] at h;cases h
 intro h;cases a:gt n f s with
 | true=>rfl
 | false=>exact absurd (fY a) h
def lj (ws:List Nat) (f s:Int):Int:=match blocks ws f.toNat with
 | none=>50
 | some l=>if bJ ws l s=true then 0 else 50
def a9 (ws:List Nat) (f s:Int):Int:=if rW ws.length=true then (if gt ws.length f s=true then 2 else lj ws f s) else 8
def iE (ws:List Nat) (f s:Int):List (Int × Int):=if a9 ws f s=0 then (match blocks ws f.toNat with | none=>[] | some l=>aq l s) else []
theorem bT(h:a9 ws f s=0):rW ws.length=true/\gt ws.length f s=false/\∃l,blocks ws f.toNat=some l/\bJ ws l s=true/\iE ws f s=aq l s:=by
 have b:=h;unfold a9 at h;split at h
 .rename_i h1;split at h
  .simp at h
  rename_i h2;unfold lj at h;cases a:blocks ws f.toNat with
  | none=>rw[a] at h;simp at h
  | some l =>
   rw[a] at h;refine⟨h1,by simpa using h2,l,rfl,?_,?_⟩
   .dsimp only at h;split at h
    .assumption
    simp at h
   unfold iE;rw[if_pos b,a]
 simp at h
theorem ia(h1:rW ws.length=true)(h2:gt ws.length f s=false)(h3:blocks ws f.toNat=some l):a9 ws f s=if bJ ws l s=true then 0 else 50:=by unfold a9 lj;rw[if_pos h1,h2,h3];rfl
theorem ma(h:rW n=true):256<=n/\n<=2048/\n%8=0:=by simp[rW] at h;omega
theorem bH :∀i l,blocks ws i=some l->i%2=0->∀k (h:k<l.length),∃a,l[k]=bkAt ws a/\a%2=0/\i<=a/\a<ws.length/\stands ws a=true/\blocks ws a=some (l.drop k):=by
 refine cV _ (λi _ _ k h=>by simp at h) (λi l c b g o e k h=>?_);have hsz:=aC b;cases k with
 | zero=>exact⟨i,rfl,e,kqg _,c,b,by rw[aG c b,g];rfl⟩
 | succ k =>obtain⟨a,f,d,h5,n,m,j⟩:=o (by omega) k (by simpa using h);exact⟨a,f,d,by omega,n,m,j⟩
theorem EP{w:Nat}(h:iF (ah w)=true)(hk:b.kind=(ah w).kind)(ht:b.typ=(ah w).typ)(h1:b.kind=1):tyA b+1<128:=by have:=(bn _).1 h;rw[<-hk,<-ht] at this;unfold tyA;omega
theorem C6{v:Nat}(hj:128<=j){a:Nat}(hs:stands ws a=true)(u:Nat):dm (ws.set j v) { bkAt ws a with next:=u }=dm ws (bkAt ws a):=by
 have d:=eJ hs;unfold dm;show ((bkAt ws a).kind != 1||cD (ws.set j v) { bkAt ws a with next:=u })=_;by_cases c:(bkAt ws a).kind=1
 .have h2:=EP (b:=bkAt ws a) d rfl rfl c;have e:wd (ws.set j v) (tyA (bkAt ws a))=wd ws (tyA (bkAt ws a)):=gi ws v (by omega);have f:wd (ws.set j v) (tyA (bkAt ws a)+1)=wd ws (tyA (bkAt ws a)+1):=gi ws v (by omega);unfold cD;show (_||(bN (wd (ws.set j v) (tyA (bkAt ws a))) (wd (ws.set j v) (tyA (bkAt ws a)+1))&&(bkAt ws a).size==((aP (wd (ws.set j v) (tyA (bkAt ws a))%256):Nat):Int)))=_;rw[e,f]
 have:((bkAt ws a).kind != 1)=true:=by rw[kqt];exact c
 rw[this,kk9,kk9]
theorem wQ(h:a9 ws f s=0){p:Nat}(hp:p<(iE ws f s).length):∃a t:Nat,(iE ws f s)[p]? = some ((a:Int),(t:Int))/\128<=a/\a+1<ws.length/\wd ws (a+1)=t/\t<=2048 /\
 ∀v,(v=t->a9 (ws.set (a+1) v) f s=0)/\(v≠t->a9 (ws.set (a+1) v) f s=50):=by
 obtain⟨D,E,l,y,F,P⟩:=bT h;obtain⟨a1,J,K,a4,a5⟩:=fY E;have n:=ma D;rw[P] at hp |-;obtain⟨k,x,G,N,-⟩:=jd hp;obtain⟨a,e,b1,b2,b3,O,-⟩:=bH _ _ y (by omega) k x;have C:=kz (i:=f.toNat) n.2.1 y (by omega) (by omega) (by omega) (s:=s) K J (by omega);obtain⟨w,B,A,hs3⟩:=dT C;have hbd:=kC w (kjq x) B A;have o:=(Dd F x).2 G;have hsz:=aC O;have c:a+1<ws.length:=by omega
 have g:wd ws (a+1)=l[k].next:=by rw[e];rfl
 have q:l[k].at_=(a:Int):=by rw[e];rfl
 refine⟨a,l[k].next,by rw[N,q,o],by omega,c,g,by omega,λv=>?_⟩;have r:=wK (ws:=ws) (j:=a+1) (v:=v) (by omega) c f.toNat (by omega);rw[y,kzk,wH w x (by rw[q];omega)] at r;have d:∀b∈l,∀u,dm (ws.set (a+1) v) { b with next:=u }=dm ws b:=by intro b n u;obtain⟨m,I,rfl⟩:=kqu n;obtain⟨a',M,-,-,-,z,-⟩:=bH _ _ y (by omega) m I;rw[M];exact C6 (by omega) z u
 obtain⟨L,-⟩:=vU (ws:=ws) (ws':=ws.set (a+1) v) (λb n=>by have:=d b n b.next;exact this) (λb u n=>d b n u) F x G v;rw[ia (by rw[kze];exact D) (by rw[kze];exact E) r,L,<-o];constructor
 .intro H;subst H;simp
 intro H;have:((v:Int)==(l[k].next:Int))=false:=by rw[kqi];omega
 rw[this];simp
def dW:List Nat->Nat->List Nat->List Nat
 | ws,_,[]=>ws
 | ws,t,v::l=>dW (ws.set t v) (t+1) l
theorem li(l:List Nat):∀(ws:List Nat) (t:Nat),(dW ws t l).length=ws.length:=by
 induction l with
 | nil=>intro ws t;rfl
 | cons v l ih=>intro ws t;simp only[dW,ih,kze]
theorem rt(l:List Nat):∀(ws:List Nat) (t i:Nat),t+l.length<=ws.length->wd (dW ws t l) i=if t<=i/\i<t+l.length then l[i-t]?.getD 0 else wd ws i:=by
 induction l with
 | nil=>intro ws t i _;simp only[dW,kxx];rw[if_neg (by omega)]
 | cons v l ih =>
  intro ws t i c;rw[kzc] at c;simp only[dW,kzc];rw[ih (ws.set t v) (t+1) i (by rw[kze];omega),lE];by_cases a:t=i
  .subst a;rw[if_neg (by omega),if_pos ⟨rfl,by omega⟩,if_pos (by omega)];simp
  by_cases b:t+1<=i/\i<t+1+l.length
  .rw[if_pos b,if_pos (by omega)];obtain⟨m,rfl⟩:∃m,i=t+1+m:=⟨i-(t+1),by omega⟩;rw[show t+1+m-(t+1)=m by omega,show t+1+m-t=m+1 by omega];simp
  rw[if_neg b,if_neg (λh=>a h.1),if_neg (by omega)]
theorem dX{xs:List Nat}(hn:xs.length=ws.length):∀i,(∀j,i<=j->wd xs j=wd ws j)->blocks xs i=blocks ws i:=by
 have c:∀n i,ws.length-i<=n->(∀j,i<=j->wd xs j=wd ws j)->blocks xs i=blocks ws i:=by
  intro n
  induction n with
  | zero=>intro i h _;rw[ay (by omega),ay (by omega)]
  | succ n ih =>
   intro i h a;by_cases hi:ws.length<=i
   .rw[ay (by omega),ay (by omega)]
   have d:stands xs i=stands ws i:=by unfold stands;rw[a i (kqg _),hn]
   have f:szAt xs i=szAt ws i:=by unfold szAt;rw[a i (kqg _)]
   have e:bkAt xs i=bkAt ws i:=by unfold bkAt;rw[a i (kqg _),a (i+1) (by omega)]
   cases b:stands ws i with
   | false=>rw[cF (by omega) (by rw[d,b]),cF (by omega) b]
   | true =>have hsz:=aC b;rw[aG (by omega) (by rw[d,b]),aG (by omega) b,f,e,ih _ (by omega) (λj hj=>a j (by omega))]
 exact λi=>c _ i (kqg _)
theorem sY{xs:List Nat}(hw:∀j,j<128->wd xs j=wd ws j):∀ {l:List Bk},(∀b∈l,b.kind=1->tyA b+1<128)->∀s,bJ xs l s=bJ ws l s:=by
 intro l
 induction l with
 | nil=>intro _ s;rfl
 | cons b l ih =>
  intro h s;have e:dm xs b=dm ws b:=by
   unfold dm;by_cases c:b.kind=1
   .have h2:=h b (by simp) c;unfold cD;rw[hw _ (by omega),hw _ (by omega)]
   have:(b.kind != 1)=true:=by rw[kqt];exact c
   rw[this,kk9,kk9]
  simp only[bJ,e];rw[ih (λb a=>h b (by simp[a])),ih (λb a=>h b (by simp[a]))]
theorem gA(h:blocks ws i=some l)(h2:i%2=0):∀b∈l,b.kind=1->tyA b+1<128:=by intro b g c;obtain⟨m,f,rfl⟩:=kqu g;obtain⟨a,e,-,-,-,d,-⟩:=bH _ _ h h2 m f;rw[e] at c |-;exact EP (eJ d) rfl rfl c
def eG (ws:List Nat) (f t:Int):Int:=if a9 ws f t=0 then (match blocks ws f.toNat with | some (b::_)=>if b.mark then 0 else 6 | _=>6) else a9 ws f t
def de (ws:List Nat) (f:Nat):List Nat:=(List.range (szAt ws f)).map λi=>if i=0 then cg { ah (wd ws f) with mark:=false } else if i=1 then 0 else wd ws (f+i)
theorem xw{t:Int}(h:eG ws f t=0):a9 ws f t=0/\∃a:Nat,f=(a:Int)/\a%2=0/\128<=a/\a<ws.length/\stands ws a=true/\aK (bkAt ws a)=true/\∃l,blocks ws a=some (bkAt ws a::l)/\blocks ws (a+szAt ws a)=some l:=by
 unfold eG at h;split at h
 .rename_i h0;refine⟨h0,?_⟩;obtain⟨h1,o,l,c,h4,h5⟩:=bT h0;obtain⟨a1,a2,a3,a4,a5⟩:=fY o;rw[c] at h;cases l with
  | nil=>simp at h
  | cons b l =>
   dsimp only at h;split at h
   .rename_i hm;refine⟨f.toNat,by omega,by omega,by omega,?_,?_⟩
    .rcases kq9 f.toNat ws.length with d|d
     .exact d
     rw[ay d] at c;simp at c
    have g:f.toNat<ws.length:=by
     rcases kq9 f.toNat ws.length with d|d
     .exact d
     rw[ay d] at c;simp at c
    obtain⟨_,i,k,m⟩:=bZ c g;have i:b=bkAt ws f.toNat:=i;subst i;refine⟨k,?_,l,c,by simpa using m⟩;have n:=(bn _).1 (eJ k);have j:(ah (wd ws f.toNat)).mark=true:=hm;have p:(bkAt ws f.toNat).kind=1:=by
     rcases n.2 with e|e
     .exact e.1
     rw[j] at e;exact absurd e.2.2.1 (by simp)
    simp[aK,p];exact hm
   simp at h
 rename_i h0;exact absurd h h0
theorem fD(ws:List Nat)(f:Nat):(de ws f).length=szAt ws f:=by simp[de]
theorem jF(ws:List Nat)(f i:Nat)(h:i<szAt ws f):(de ws f)[i]? = some (if i=0 then cg { ah (wd ws f) with mark:=false } else if i=1 then 0 else wd ws (f+i)):=by simp[de,h]
theorem qF{w:Nat}(h:iF (ah w)=true)(hk:(ah w).kind=1):iF { ah w with mark:=false }=true:=by
 have:=(bn _).1 h;rw[bn];show _/\((ah w).kind=1/\_\/_);rcases this.2 with a|a
 .exact ⟨this.1,.inl a⟩
 rw[hk] at a;exact absurd a.1 (by omega)
theorem fG{t:Int}(h:eG ws f t=0):∃a u n:Nat,f=(a:Int)/\t=(u:Int)/\n=szAt ws a/\2<=n/\n<=10/\128<=u/\u<=a/\a+n<=ws.length/\stands ws a=true/\aK (bkAt ws a)=true /\
 (∃l,blocks ws a=some (bkAt ws a::l)/\blocks ws (a+n)=some l/\blocks (dW ws u (de ws a)) (a+n)=some l/\a9 (dW ws u (de ws a)) ((a+n:Nat):Int) ((u+n:Nat):Int)=0 /\
  iE ws f t=((a:Int),(u:Int))::iE (dW ws u (de ws a)) ((a+n:Nat):Int) ((u+n:Nat):Int)) /\
 wd (dW ws u (de ws a)) u=cg { ah (wd ws a) with mark:=false }/\iF { ah (wd ws a) with mark:=false }=true:=by
 obtain⟨J,a,rfl,I,c2,c3,r,p,l,x,F⟩:=xw h;obtain⟨B,H,l',C,D,L⟩:=bT J;obtain⟨a1,a2,a3,a4,a5⟩:=fY H;have E:=ma B;rw[kqk,x] at C;cases C;obtain⟨u,rfl⟩:=kq5 (show 0<=t by omega);have m:=aC r;have A:(bkAt ws a).kind=1:=by simp[aK] at p;exact p.1
 have z:=(bn _).1 (eJ r);have q:szAt ws a<=10:=by
  have e1:(ah (wd ws a)).size=((szAt ws a:Nat):Int):=rfl;have v:(ah (wd ws a)).kind=1:=A;rcases z.2 with y|y
  .omega
  rw[v] at y;exact absurd y.1 (by omega)
 have s:=qF (eJ r) A;have d:=fD ws a;have g:∀i,wd (dW ws u (de ws a)) i=if u<=i/\i<u+szAt ws a then (de ws a)[i-u]?.getD 0 else wd ws i:=by intro i;rw[rt _ _ _ _ (by rw[d];omega),d]
 have c:∀j,a+szAt ws a<=j->wd (dW ws u (de ws a)) j=wd ws j:=λj N=>by rw[g,if_neg (by omega)]
 have k:blocks (dW ws u (de ws a)) (a+szAt ws a)=some l:=by rw[dX (li _ _ _) _ c,F]
 have w:∀j,j<128->wd (dW ws u (de ws a)) j=wd ws j:=λj N=>by rw[g,if_neg (by omega)]
 have K:bJ ws l ((u:Int)+(szAt ws a:Nat))=true:=by simp only[bJ,p,if_true,kqz] at D;exact D.2.2
 have G:bJ (dW ws u (de ws a)) l ((u+szAt ws a:Nat):Int)=true:=by
  rw[sY w (λb E=>gA x I b (by simp[E]))]
  simpa using K
 have o:a9 (dW ws u (de ws a)) ((a+szAt ws a:Nat):Int) ((u+szAt ws a:Nat):Int)=0:=by
  rw[ia (by rw[li];exact B) ?_ (by rw[kqk];exact k),if_pos G];rw[li];cases M:gt ws.length ((a+szAt ws a:Nat):Int) ((u+szAt ws a:Nat):Int) with
  | false=>rfl
  | true=>exact absurd (by omega) ((kq _ _ _).1 M)
 refine⟨a,u,szAt ws a,rfl,rfl,rfl,m.1,q,by omega,by omega,m.2.2,r,p,⟨l,x,F,k,o,?_⟩,?_,s⟩
 .rw[L];have e:iE (dW ws u (de ws a)) ((a+szAt ws a:Nat):Int) ((u+szAt ws a:Nat):Int)=aq l ((u+szAt ws a:Nat):Int):=by unfold iE;rw[if_pos o,kqk,k]
  rw[e];simp only[aq,p,if_true,ab,aV];simp
 rw[g,if_pos (by omega),Nat.sub_self,jF _ _ _ (by omega),kq2,if_pos rfl]
def bo (b:Bk) (s:Int):Nat:=if aK b then s.toNat else 0
def d7 (b:Bk) (s:Int):Int:=if aK b then s+b.size else s
def aN:List Bk->Int->List En
 | [],_=>[]
 | b::l,s=>(if b.kind=1/\b.next≠bo b s then [⟨b.at_+1,bo b s⟩] else [])++aN l (d7 b s)
def fwB:List Bk->Int->List Bk
 | [],_=>[]
 | b::l,s=>(if b.kind=1 then { b with next:=bo b s } else b)::fwB l (d7 b s)
def ak:List Nat->List En->List Nat
 | ws,[]=>ws
 | ws,e::l=>ak (if 0<=e.a/\e.a<(ws.length:Int) then ws.set e.a.toNat e.v else ws) l
theorem aD(l:List En):∀ws:List Nat,(ak ws l).length=ws.length:=by
 induction l with
 | nil=>intro ws;rfl
 | cons e l ih=>intro ws;simp only[ak,ih];split<;>simp
theorem dR(a b:List En):∀ws:List Nat,ak ws (a++b)=ak (ak ws a) b:=by
 induction a with
 | nil=>intro ws;rfl
 | cons e a ih=>intro ws;simp only[kz0,ak,ih]
theorem aT(l:List En):∀(ws:List Nat) (i:Nat),(∀e∈l,e.a≠(i:Int))->wd (ak ws l) i=wd ws i:=by
 induction l with
 | nil=>intro ws i _;rfl
 | cons e l ih =>
  intro ws i h;simp only[ak];rw[ih _ i (λx b=>h x (by simp[b]))];split
  .rename_i hb;exact gi ws _ (by have:=h e (by simp);omega)
  rfl
theorem rD(a b:List Bk):∀s,aN (a++b) s=aN a s++aN b (aI a s):=by
 induction a with
 | nil=>intro s;rfl
 | cons x a ih =>intro s;simp only[kz0,aN,ih,aI,d7,kkj];cases aK x<;>simp
theorem pv :∀i l,blocks ws i=some l->∀s,∀e∈aN l s,(i:Int)+1<=e.a/\e.a<(ws.length:Int):=by
 refine cV _ (λi _ s e h=>by simp[aN] at h) (λi l hi b hb c s e h=>?_);have hsz:=aC b;simp only[aN,kzo] at h;rcases h with h|h
 .split at h
  .simp only[kq0,kzu,or_false] at h;subst h;show (i:Int)+1<=(bkAt ws i).at_+1/\(bkAt ws i).at_+1<_;rw[ab];omega
  simp at h
 have:=c _ e h;omega
theorem pq{v:Nat}(h:i+1<ws.length):bkAt (ws.set (i+1) v) i={ bkAt ws i with next:=v }:=by rw[uL (by omega) h];unfold my;rw[if_pos (by rw[ab];omega)]
theorem sE{v:Nat}(h:b.next=v):{ b with next:=v }=b:=by subst h;rfl
theorem th:∀n (ws:List Nat) (i:Nat) (l:List Bk),ws.length-i<=n->blocks ws i=some l->∀s,blocks (ak ws (aN l s)) i=some (fwB l s)/\∀j,j<=i->wd (ak ws (aN l s)) j=wd ws j:=by
 intro n
 induction n with
 | zero =>intro ws i l B h s;rw[ay (by omega)] at h;cases h;exact⟨by simp only[aN,ak,fwB];exact ay (by omega),λj _=>rfl⟩
 | succ n ih =>
  intro ws i l B h s;by_cases c:ws.length<=i
  .rw[ay c] at h;cases h;exact⟨by simp only[aN,ak,fwB];exact ay c,λj _=>rfl⟩
  have c:i<ws.length:=by omega
  cases f:stands ws i with
  | false=>rw[cF c f] at h;cases h
  | true =>
   have hsz:=aC f;rw[aG c f] at h;cases t:blocks ws (i+szAt ws i) with
   | none=>rw[t] at h;cases h
   | some l' =>
    rw[t] at h;simp only[kzk,Option.some.injEq] at h;subst h;obtain⟨a,r,b,o,q,e,d⟩:∃a,ak ws (aN (bkAt ws i::l') s)=ak a (aN l' (d7 (bkAt ws i) s))/\a.length=ws.length/\bkAt a i=(if (bkAt ws i).kind=1 then { bkAt ws i with next:=bo (bkAt ws i) s } else bkAt ws i)/\stands a i=stands ws i/\szAt a i=szAt ws i/\∀j,j≠i+1->wd a j=wd ws j:=by
     by_cases g:(bkAt ws i).kind=1/\(bkAt ws i).next≠bo (bkAt ws i) s
     .refine ⟨ws.set (i+1) (bo (bkAt ws i) s),?_,by simp,?_,(kO _ (by omega)).1,(kO _ (by omega)).2,λj w=>gi ws _ (by omega)⟩
      .simp only[aN];rw[if_pos g,dR];simp only[ak];rw[if_pos (by rw[ab];omega),ab,show ((i:Int)+1).toNat=i+1 by omega]
      rw[pq (by omega),if_pos g.1]
     refine⟨ws,?_,rfl,?_,rfl,rfl,λj _=>rfl⟩
     .simp only[aN];rw[if_neg g,kz5]
     split
     .rename_i hk;have:(bkAt ws i).next=bo (bkAt ws i) s:=by
       rcases Nat.decEq (bkAt ws i).next (bo (bkAt ws i) s) with m|m
       .exact absurd ⟨hk,m⟩ g
       exact m
      exact (sE this).symm
     rfl
    have u:blocks a (i+szAt ws i)=some l':=by rw[dX b _ (λj w=>d j (by omega)),t]
    obtain⟨v,k⟩:=ih a (i+szAt ws i) l' (by omega) u (d7 (bkAt ws i) s);rw[r];obtain⟨E,C⟩:=xq (aN l' (d7 (bkAt ws i) s));rw[C] at v k |-;have p:wd (ak a E) i=wd a i:=k i (by omega);have x:wd (ak a E) (i+1)=wd a (i+1):=k (i+1) (by omega);have z:stands (ak a E) i=stands a i:=by unfold stands;rw[p,aD]
    have y:szAt (ak a E) i=szAt a i:=by unfold szAt;rw[p]
    have A:bkAt (ak a E) i=bkAt a i:=by unfold bkAt;rw[p,x]
    refine⟨?_,λj w=>by rw[k j (by omega)];exact d j (by omega)⟩;rw[aG (by rw[aD,b];exact c) (by rw[z,q,f]),y,A,e,v,o];rfl
theorem C8 :∀ {s:Int},aI (fwB l s) s=aI l s/\aq (fwB l s) s=aq l s/\(fwB l s).map (λb=>(b.at_,b.size,b.kind,b.mark))=l.map (λb=>(b.at_,b.size,b.kind,b.mark)):=by
 induction l with
 | nil=>intro s;exact⟨rfl,rfl,rfl⟩
 | cons b l ih =>
  intro s;have i:aK (if b.kind=1 then { b with next:=bo b s } else b)=aK b:=by split<;>rfl
  have e:(if b.kind=1 then { b with next:=bo b s } else b).size=b.size:=by split<;>rfl
  have f:(if b.kind=1 then { b with next:=bo b s } else b).at_=b.at_:=by split<;>rfl
  have h:(if b.kind=1 then { b with next:=bo b s } else b).kind=b.kind:=by split<;>rfl
  have g:(if b.kind=1 then { b with next:=bo b s } else b).mark=b.mark:=by split<;>rfl
  simp only[fwB,aI,aq,kxk,i,e,f,h,g];unfold d7;split
  .obtain ⟨c,d,a⟩:=ih (s:=s+b.size);rw[c,d,a];exact⟨rfl,rfl,rfl⟩
  obtain⟨c,d,a⟩:=ih (s:=s);rw[c,d,a];exact⟨rfl,rfl,rfl⟩
end Go.Proofs.YtpcajamacpbjcaaGreat
