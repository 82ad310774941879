/- Texts laid together: Base BrkP BrkQ BrkX HeapP KindP FwdP FwdQ FwdR SldP FwbP. -/
import Derived.Test.YtpcajamacpbjcaaGreatRows
import Derived.WalkKit
import Derived.WalkSpells
import Derived.WalkLawsBesides
import Derived.Deep.QuietTactic
import Derived.BigQuiet
import Derived.Lib.Hide
import Derived.Deep.AppendLies
import Derived.Deep.OwnRows
import Derived.Deep.Cut
import Derived.Deep.Draws
import Derived.Deep.LoopGhost
import Derived.Deep.RegionWith
import Derived.WalkSmall
import Derived.Test.YtpcajamacpbjcaaGreatZA
set_option maxHeartbeats 16000000
set_option linter.all false
namespace Go.Proofs.YtpcajamacpbjcaaGreat
open Go.RowKit
variable {p:Addr}{xm:Bool}{f nx s xa xk xt:Int}{ws:List Nat}{xs:List Value}{B H g i j k n sz xn:Nat}{o:Obj}{A:Option Addr}{α:Type}{e t:TypeId}{v x y z:Value}{w w' w1 wr:World}
def Rd (w:World) (B:Nat) (A:Option Addr) (xs:List Value):Prop:=
 xs≠[]->∃b off,A=some ⟨b,off,none⟩/\b<B/\∀j (h:j<xs.length),w.cell? ⟨b,off+j,none⟩=some xs[j]
section
variable {w w':World} {B B':Nat} {A:Option Addr} {xs:List Value}
theorem Rd.nil_:Rd w B A []:=λh=>absurd rfl h
theorem Rd.keep(h:Rd w B A xs)(hk:∀p:Addr,p.block<B->w'.cell? p=w.cell? p):Rd w' B A xs:=λg=>by obtain⟨b,a,e,c,f⟩:=h g;exact⟨b,a,e,c,λj d=>(hk ⟨b,a+j,none⟩ c).trans (f j d)⟩
theorem Rd.more(h:Rd w B A xs)(hB:B<=B'):Rd w B' A xs:=λd=>by obtain⟨b,a,e,hb,c⟩:=h d;exact⟨b,a,e,by omega,c⟩
theorem Rd.below(h:Rd w B A xs)(hb:Below B w w'):Rd w' B A xs:=h.keep λ_ a=>hb.cell a
theorem Rd.up(h:Rd w B A xs)(hb:Below B w w')(hB:B<=B'):Rd w' B' A xs:=(h.below hb).more hB
theorem Rd.alloc(h:Rd w B A xs)(hB:B<=w.heap.size)(o:Obj):Rd (w.alloc o) B A xs:=h.keep λp hp=>kq8 w o p (by omega)
theorem Rd.drop_(h:Rd w B A xs)(k:Nat):Rd w B (A.map (·.add k)) (xs.drop k):=λm=>by
 have a:k<xs.length:=by
  rcases kq6 k xs.length with f|f
  .exact f
  exact absurd (List.drop_eq_nil_of_le f) m
 obtain⟨b,c,rfl,g,l⟩:=h (by intro e;subst e;simp at a);refine⟨b,c+k,?_,g,λj i=>?_⟩
 .simp only[kzp,Addr.add];split<;>simp_all
 have d:k+j<xs.length:=by simp at i;omega
 rw[kjn,kj3];exact l _ d
theorem Rd.take_(h:Rd w B A xs)(k:Nat):Rd w B A (xs.take k):=λg=>by obtain⟨b,a,rfl,c,f⟩:=h (by intro e;subst e;simp at g);exact⟨b,a,rfl,c,λj d=>by rw[kkb];exact f j (by simp at d;omega)⟩
theorem Rd.of_own{base size:Nat}{c:Nat}(h:w.ownsRow base e size (.slice A n c) n xs):Rd w w.heap.size A xs:=λi=>by
 have f:0<n:=by
  rcases kxy n with b|b
  .have:=h.1;subst b;simp at this;exact absurd this i
  exact b
 obtain⟨g,cap,k,_,a⟩:=h.form f;have l:A=some ⟨g,0,none⟩:=by injection k
 subst l;refine⟨g,0,rfl,a,λj d=>?_⟩;have:=h.cells (g:=g) rfl j xs[j] (kqm d);have e:(⟨g,0,none⟩:Addr).add j=⟨g,0+j,none⟩:=by unfold Addr.add;split<;>simp_all
 rwa [e] at this
end
theorem bY(f:α->List Value)(sz:Nat)(hf:∀x,(f x).length=sz)(l:List α):(l.flatMap f).length=l.length*sz:=by
 induction l with
 | nil=>simp
 | cons x l ih=>rw[kz7,kqz,hf,ih,kq3,kjq];omega
theorem iq(f:α->List Value)(sz:Nat)(hf:∀x,(f x).length=sz)(l:List α)(k j:Nat)(hk:k<l.length)(hj:j<sz):
 (l.flatMap f)[k*sz+j]? = (f l[k])[j]?:=by
 induction l generalizing k with
 | nil=>simp at hk
 | cons x l ih =>
  rw[kz7];cases k with
  | zero=>rw[kkg (by rw[hf];omega)];simp
  | succ k =>
   rw[kxp (by rw[hf,kjq];omega),hf];have:(k+1)*sz+j-sz=k*sz+j:=by rw[kjq];omega
   rw[this,ih k (by simpa using hk)];simp
theorem Rd.at_flat{f:α->List Value}{l:List α}(hf:∀x,(f x).length=sz)(h:Rd w B A (l.flatMap f))(hsz:0<sz)(hk:k<l.length):
 ∃b a,A=some ⟨b,a,none⟩/\b<B/\∀j,j<sz->w.cell? ⟨b,a+k*sz+j,none⟩=(f l[k])[j]?:=by
 have g:=bY f sz hf l;have c:0<(l.flatMap f).length:=by rw[g];exact Nat.mul_pos (by omega) hsz
 obtain⟨b,a,rfl,m,o⟩:=h (by intro e;rw[e] at c;simp at c);refine⟨b,a,rfl,m,λj n=>?_⟩;have d:k*sz+j<(l.flatMap f).length:=by rw[g];have:(k+1)*sz<=l.length*sz:=kx2 _ hk;rw[kjq] at this;omega
 have i:=o _ d;rw[<-kj3] at i;rw[i,<-iq f sz hf l k j hk n];exact (kqm d).symm
structure En where
 a:Int
 v:Nat
 deriving DecidableEq,Inhabited
def En.cells (e:En):List Value:=[.int .i64 e.a,.int .u64 (e.v:Int)]
structure Bk where
 at_:Int
 size:Int
 kind:Int
 typ:Int
 mark:Bool
 next:Nat
 deriving DecidableEq,Inhabited
variable {b:Bk}{l:List Bk}
def Bk.cells (b:Bk):List Value:=[.int .i64 b.at_,.int .i64 b.size,.int .i64 b.kind,.int .i64 b.typ,.bool b.mark,.int .u64 (b.next:Int)]
def Bk.val (b:Bk):Value:=.agg #[.int .i64 b.at_,.int .i64 b.size,.int .i64 b.kind,.int .i64 b.typ,.bool b.mark,.int .u64 (b.next:Int)]
def a8 (x:Int):List Value:=[.int .i64 x]
def au (x:Nat):List Value:=[.int .u64 (x:Int)]
def RdE (w:World) (B:Nat) (A:Option Addr) (l:List En):Prop:=Rd w B A (l.flatMap En.cells)
def RdB (w:World) (B:Nat) (A:Option Addr) (l:List Bk):Prop:=Rd w B A (l.flatMap Bk.cells)
def RdI (w:World) (B:Nat) (A:Option Addr) (l:List Int):Prop:=Rd w B A (l.flatMap a8)
def RdW (w:World) (B:Nat) (A:Option Addr) (l:List Nat):Prop:=Rd w B A (l.flatMap au)
theorem En.len(x:En):x.cells.length=2:=rfl
theorem Bk.len(x:Bk):x.cells.length=6:=rfl
theorem jl(x:Int):(a8 x).length=1:=rfl
theorem bZ(x:Nat):(au x).length=1:=rfl
theorem RdE.at_{l:List En}(h:RdE w B A l)(hk:k<l.length):
 ∃b c,A=some ⟨b,c,none⟩/\b<B/\w.cell? ⟨b,c+k*2,none⟩=some (.int .i64 l[k].a)/\w.cell? ⟨b,c+k*2+1,none⟩=some (.int .u64 (l[k].v:Int)):=by obtain⟨b,c,e,f,d⟩:=Rd.at_flat En.len h (by omega) hk;exact⟨b,c,e,f,d 0 (by omega),d 1 (by omega)⟩
theorem RdB.at_(h:RdB w B A l)(hk:k<l.length):
 ∃b a,A=some ⟨b,a,none⟩/\b<B/\w.cell? ⟨b,a+k*6,none⟩=some (.int .i64 l[k].at_)/\w.cell? ⟨b,a+k*6+1,none⟩=some (.int .i64 l[k].size) /\
  w.cell? ⟨b,a+k*6+2,none⟩=some (.int .i64 l[k].kind)/\w.cell? ⟨b,a+k*6+3,none⟩=some (.int .i64 l[k].typ) /\
  w.cell? ⟨b,a+k*6+4,none⟩=some (.bool l[k].mark)/\w.cell? ⟨b,a+k*6+5,none⟩=some (.int .u64 (l[k].next:Int)):=by obtain⟨b,a,e,d,c⟩:=Rd.at_flat Bk.len h (by omega) hk;exact⟨b,a,e,d,c 0 (by omega),c 1 (by omega),c 2 (by omega),c 3 (by omega),c 4 (by omega),c 5 (by omega)⟩
theorem RdI.at_{l:List Int}(h:RdI w B A l)(hk:k<l.length):
 ∃b a,A=some ⟨b,a,none⟩/\b<B/\w.cell? ⟨b,a+k,none⟩=some (.int .i64 l[k]):=by obtain⟨b,a,e,c,d⟩:=Rd.at_flat jl h (by omega) hk;have:=d 0 (by omega);simp only[kx7,kz6] at this;exact⟨b,a,e,c,this⟩
theorem RdW.at_{l:List Nat}(h:RdW w B A l)(hk:k<l.length):
 ∃b a,A=some ⟨b,a,none⟩/\b<B/\w.cell? ⟨b,a+k,none⟩=some (.int .u64 (l[k]:Int)):=by obtain⟨b,a,e,c,d⟩:=Rd.at_flat bZ h (by omega) hk;have:=d 0 (by omega);simp only[kx7,kz6] at this;exact⟨b,a,e,c,this⟩
theorem aH(h:B<=w.heap.size):B<=(w.alloc o).heap.size:=by rw[kqn];omega
theorem dZ{u:Value}(h:B<=w.heap.size):B<=(w.setCell p u).heap.size:=by rw[kxz];exact h
theorem cp(h:B<=w.heap.size):B<=(w.drewN n).heap.size:=h
theorem az{a:World}(h:Below B a w)(n:Nat):Below B a (w.drewN n):=⟨h.os,h.tape,h.output,h.size,h.block⟩
theorem iw{b:Nat}{f:Nat->Value}(h:w.rowIs b t n f)(k:Nat):(w.drewN k).rowIs b t n f:=h
theorem mG{b:Nat}{f:Nat->Value}(h:w.rowIs b t n f)(hb:Below B w w')(hlt:b<B):w'.rowIs b t n f:=h.of_block (hb.block b hlt)
theorem Fg{k:IntKind}{a b:Int}(h:a=b):Ending.returned (.int k a)=.returned (.int k b):=by rw[h]
theorem box_of{cs:Array Value}(hB:Below (w.heap.size+1) (w.alloc (.cells cs t)) w1):
 (∀i,w1.cell? ⟨w.heap.size,i,none⟩=cs[i]?)/\(∀i,w1.frozen? ⟨w.heap.size,i,none⟩=false)/\Below w.heap.size w w1/\w.heap.size<w1.heap.size:=by have a:w1.heap[w.heap.size]? = some (.cells cs t (0,0)):=(hB.block w.heap.size (by omega)).trans (heap_alloc_new w _);refine⟨λi=>cell_of_row w1 _ i cs t (0,0) a,λi=>by simp[World.frozen?,a],((kqk _ _).alloc (kqb _) _).trans (hB.mono (by omega)),?_⟩;have:=hB.size;simp at this;omega
theorem box3(hB:Below (w.heap.size+1) (w.alloc (.cells #[x,y,z] t)) w1):
 w1.cell? ⟨w.heap.size,0,none⟩=some x/\w1.cell? ⟨w.heap.size,1,none⟩=some y/\w1.cell? ⟨w.heap.size,2,none⟩=some z /\
  w1.frozen? ⟨w.heap.size,0,none⟩=false/\w1.frozen? ⟨w.heap.size,1,none⟩=false/\w1.frozen? ⟨w.heap.size,2,none⟩=false/\Below w.heap.size w w1/\w.heap.size<w1.heap.size:=by obtain⟨a,b,d,c⟩:=box_of hB;exact⟨a 0,a 1,a 2,b 0,b 1,b 2,d,c⟩
def Bx (w:World) (g:Nat) (t:TypeId) (cs:Array Value):Prop:=w.heap[g]? = some (.cells cs t (0,0))
section
variable {w w':World} {g B:Nat} {t:TypeId} {cs:Array Value}
theorem Bx.lt(h:Bx w g t cs):g<w.heap.size:=by
 rcases kq6 g w.heap.size with a|b
 .exact a
 unfold Bx at h;rw[kjs b] at h;cases h
theorem Bx.cell(h:Bx w g t cs)(i:Nat):w.cell? ⟨g,i,none⟩=cs[i]?:=cell_of_row w g i cs t (0,0) h
theorem Bx.frozen(h:Bx w g t cs)(i:Nat):w.frozen? ⟨g,i,none⟩=false:=by unfold Bx at h;simp[World.frozen?,h]
theorem Bx.new(w:World)(t:TypeId)(cs:Array Value):Bx (w.alloc (.cells cs t)) w.heap.size t cs:=heap_alloc_new w _
theorem Bx.alloc(h:Bx w g t cs)(o:Obj):Bx (w.alloc o) g t cs:=(Below.heap_alloc w o g h.lt).trans h
theorem Bx.far(h:Bx w g t cs)(hp:g≠p.block)(u:Value):Bx (w.setCell p u) g t cs:=(kkq w p u g hp).trans h
theorem Bx.up(h:Bx w g t cs)(hb:Below B w w')(hg:g<B):Bx w' g t cs:=(hb.block g hg).trans h
theorem Bx.set_(h:Bx w g t cs)(i:Nat)(u:Value):Bx (w.setCell ⟨g,i,none⟩ u) g t (cs.setIfInBounds i u):=by unfold Bx at h |-;simp[World.setCell,Array.getElem?_modify,h]
theorem Bx.of_new(hB:Below (w.heap.size+1) (w.alloc (.cells cs t)) w'):Bx w' w.heap.size t cs:=(Bx.new w t cs).up hB (by omega)
theorem Bx.c1(h:Bx w g t #[x]):w.cell? ⟨g,0,none⟩=some x/\w.frozen? ⟨g,0,none⟩=false/\g<w.heap.size:=⟨h.cell 0,h.frozen 0,h.lt⟩
theorem Bx.c2(h:Bx w g t #[x,y]):w.cell? ⟨g,0,none⟩=some x/\w.cell? ⟨g,1,none⟩=some y/\w.frozen? ⟨g,0,none⟩=false/\w.frozen? ⟨g,1,none⟩=false/\g<w.heap.size:=
 ⟨h.cell 0,h.cell 1,h.frozen 0,h.frozen 1,h.lt⟩
theorem Bx.c3(h:Bx w g t #[x,y,z]):w.cell? ⟨g,0,none⟩=some x/\w.cell? ⟨g,1,none⟩=some y/\w.cell? ⟨g,2,none⟩=some z /\
 w.frozen? ⟨g,0,none⟩=false/\w.frozen? ⟨g,1,none⟩=false/\w.frozen? ⟨g,2,none⟩=false/\g<w.heap.size:=
 ⟨h.cell 0,h.cell 1,h.cell 2,h.frozen 0,h.frozen 1,h.frozen 2,h.lt⟩
theorem Bx.c6{x0 x1 x2 x3 x4 x5:Value}(h:Bx w g t #[x0,x1,x2,x3,x4,x5]):w.cell? ⟨g,0,none⟩=some x0/\w.cell? ⟨g,1,none⟩=some x1/\w.cell? ⟨g,2,none⟩=some x2 /\
 w.cell? ⟨g,3,none⟩=some x3/\w.cell? ⟨g,4,none⟩=some x4/\w.cell? ⟨g,5,none⟩=some x5/\(∀i,w.frozen? ⟨g,i,none⟩=false)/\g<w.heap.size:=
 ⟨h.cell 0,h.cell 1,h.cell 2,h.cell 3,h.cell 4,h.cell 5,h.frozen,h.lt⟩
end
theorem ao(hB:Below (w.heap.size+1) (w.alloc o) w1):Below w.heap.size w w1:=((kqk _ _).alloc (kqb _) _).trans (hB.mono (by omega))
theorem bn(w:World)(cs:List Value)(t:TypeId):∀j u,cs[j]? = some u->(w.alloc (.cells cs.toArray t)).cell? ((⟨w.heap.size,0,none⟩:Addr).add j)=some u:=by
 intro j u a;have e:(⟨w.heap.size,0,none⟩:Addr).add j=⟨w.heap.size,j,none⟩:=by unfold Addr.add;split<;>simp_all
 rw[e,(Bx.new w t cs.toArray).cell j]
 simpa using a
theorem am(hB:Below H w wr)(hH:H<=wr.heap.size)(hown:wr.ownsRow H e sz v n xs)(hg:(wr.alloc o).grownBy w1 v.ownBlock):Below H w w1:=
 (hB.alloc hH _).grown hg (aH hH) (λk a=>(hown.lt k a).1)
theorem aM(hB:Below H w wr)(hH:H<=wr.heap.size)(hown:wr.ownsRow H e sz v n xs)(hg:wr.grownBy w1 v.ownBlock):Below H w w1:=
 hB.grown hg hH (λk a=>(hown.lt k a).1)
theorem Bx.grown{cs:Array Value}{row:Option Nat}(h:Bx w g t cs)(hb:w.grownBy w' row)(hg:some g≠row):Bx w' g t cs:=(hb.block g h.lt hg).trans h
theorem eI(hown:w.ownsRow H e sz v n xs)(hg:g<H):some g≠v.ownBlock:=λh=>by have:=(hown.lt g h.symm).1;omega
theorem ap(hown:w.ownsRow H e sz v n xs):∃A c,v=.slice A n c:=by
 rcases hown.2 with⟨rfl,rfl⟩|⟨g,cap,cur,rfl,_⟩
 .exact ⟨none,0,rfl⟩
 exact⟨_,_,rfl⟩
theorem ae(h:w.ownsRow H e sz v n xs)(hb:Below B w w')(hB:w.heap.size<=B):w'.ownsRow H e sz v n xs:=by
 refine⟨h.1,?_⟩;rcases h.2 with i|⟨g,c,f,j,d,a,b⟩
 .exact .inl i
 exact .inr ⟨g,c,f,j,d,(hb.block g (by have:=(kjt.1 a).1;omega)).trans a,b⟩
theorem b9(f:α->List Value)(l:List α)(x:α):(l++[x]).flatMap f=l.flatMap f++f x:=by simp
structure Ch where
 A:Option Addr
 c:Nat
 l:List En
 deriving Inhabited
def Ch.cells (x:Ch):List Value:=[.slice x.A x.l.length x.c]
def RdC (w:World) (B:Nat) (A:Option Addr) (l:List Ch):Prop:=Rd w B A (l.flatMap Ch.cells)
theorem Ch.len(x:Ch):x.cells.length=1:=rfl
theorem RdC.at_{l:List Ch}(h:RdC w B A l)(hk:k<l.length):
 ∃b a,A=some ⟨b,a,none⟩/\b<B/\w.cell? ⟨b,a+k,none⟩=some (.slice l[k].A l[k].l.length l[k].c):=by obtain⟨b,a,e,d,f⟩:=Rd.at_flat Ch.len h (by omega) hk;have:=f 0 (by omega);simp only[kx7,kz6] at this;exact⟨b,a,e,d,this⟩
def aB (l:List En):List Int:=l.map En.a
theorem cc(l:List En):(aB l).length=l.length:=by simp[aB]
theorem iN(l:List En)(k:Nat)(h:k<l.length):(aB l)[k]?.getD 0=l[k].a:=by simp[aB,h]
theorem ar{M:Nat}(h:w.ownsRow M e sz v n xs)(hH:H<=M):w.ownsRow H e sz v n xs:=by
 refine⟨h.1,?_⟩;rcases h.2 with d|⟨g,b,c,f,hb1,a⟩
 .exact .inl d
 exact .inr ⟨g,b,c,f,by omega,a⟩
theorem gK{H':Nat}{e':TypeId}{sz' n':Nat}{v':Value}{xs':List Value}(h:w.ownsRow H e sz v n xs)(h':w.ownsRow H' e' sz' v' n' xs')(hne:e≠e'):v.ownBlock=none\/v.ownBlock≠v'.ownBlock:=by
 rcases h.2 with⟨rfl,_⟩|⟨g,cap,cur,rfl,_,b,_⟩
 .exact .inl rfl
 right;rcases h'.2 with⟨rfl,_⟩|⟨g',cap',cur',rfl,_,a,_⟩
 .simp[Value.ownBlock]
 simp only[Value.ownBlock,ne_eq,Option.some.injEq];rintro rfl;rw[b] at a;simp only[Option.some.injEq,Obj.cells.injEq] at a;exact hne a.2.1
theorem vt(f:α->List Value)(hf:∀x,(f x).length=1)(l:List α)(n:Nat):(l.take n).flatMap f=(l.flatMap f).take n:=by
 induction l generalizing n with
 | nil=>simp
 | cons x l ih =>
  have a:=hf x
  match hfx:f x,a with
  | [u],_ =>
   cases n with
   | zero=>simp
   | succ n=>simp[List.flatMap_cons,hfx,ih]
theorem uu(f:α->List Value)(hf:∀x,(f x).length=1)(l:List α)(n:Nat):(l.drop n).flatMap f=(l.flatMap f).drop n:=by
 induction l generalizing n with
 | nil=>simp
 | cons x l ih =>
  have a:=hf x
  match hfx:f x,a with
  | [u],_ =>
   cases n with
   | zero=>simp
   | succ n=>simp[List.flatMap_cons,hfx,ih]
def dx (H:Nat) (err:Int) (out:List En) (e:Ending) (w':World):Prop:=∃A c,e=.returned (.tuple #[.slice A out.length c,.int .i64 err])/\w'.ownsRow H 89 2 (.slice A out.length c) out.length (out.flatMap En.cells)
theorem bH{err r:Int}{out:List En}(h1:err=r)(h2:out=[]):dx H err out (.returned (.tuple #[.slice none 0 0,.int .i64 r])) w':=by subst h1 h2;exact⟨none,0,rfl,kq1 _ _ _ _⟩
def gk (l:List Bk) (k:Nat):Bk:=l[k]?.getD default
theorem bo(l:List Bk)(k:Nat)(h:k<l.length):gk l k=l[k]:=by simp[gk,h]
def Ag (b:Bk):Bool:=(b.kind==1||b.kind==2)&&((decide (2<=b.size)&&(decide (b.size<=2048)&&b.size%2==0))&&(decide (128<=b.at_)&&(b.at_%2==0&&decide (b.at_<=2048-b.size))))
def dF (l:List Bk):Nat->Int
 | 0=>128
 | k+1=>(gk l k).at_+(gk l k).size
def cQ (l:List Bk):Nat->Bool
 | 0=>true
 | k+1=>cQ l k&&(Ag (gk l k)&&(decide (k=0)||(gk l k).at_==dF l k))
def zb (l:List Bk):Bool:=decide (l.length<=1024)&&cQ l l.length
def bV (l:List Bk):Int:=if zb l then 0 else 8
theorem fh(h:cQ l n=true)(hk:k<=n):cQ l k=true:=by
 induction n with
 | zero =>
  have:k=0:=by omega
  subst this;exact h
 | succ n ih =>
  rcases kq6 k (n+1) with a|a
  .simp only[cQ,kqw] at h;exact ih h.1 (by omega)
  have:k=n+1:=by omega
  subst this;exact h
theorem dK(h:cQ l n=true)(hk:k<n):Ag (gk l k)=true/\(k=0\/(gk l k).at_=dF l k):=by have:=fh h (show k+1<=n from hk);simp only[cQ,kqw,kje,kzw,kqu] at this;exact this.2
theorem sx(h:1024<l.length):bV l=8:=by
 have:¬ l.length<=1024:=by omega
 simp[bV,zb,this]
theorem uD(h:cQ l k=false)(hk:k<=l.length):bV l=8:=by
 have:cQ l l.length=false:=by
  cases a:cQ l l.length with
  | false=>rfl
  | true=>rw[fh a hk] at h;cases h
 simp[bV,zb,this]
theorem re(h:l.length<=1024)(hk:cQ l l.length=true):bV l=0:=by simp[bV,zb,h,hk]
theorem dg(h:bV l=0):l.length<=1024/\cQ l l.length=true:=by
 unfold bV zb at h;split at h
 .rename_i h1
  simpa using h1
 simp at h
theorem ve(l:List Bk):bV l=0\/bV l=8:=by unfold bV;split<;>simp
theorem eh(b:Bk):Ag b=true↔(b.kind=1\/b.kind=2)/\2<=b.size/\b.size<=2048/\b.size%2=0/\128<=b.at_/\b.at_%2=0/\b.at_<=2048-b.size:=by
 simp only[Ag,kqw,kje,kqu,kzw];constructor
 .rintro ⟨h,⟨g,f,d⟩,e,c,a⟩;exact⟨h,g,f,d,e,c,a⟩
 rintro ⟨h,g,f,d,e,c,a⟩;exact⟨h,⟨g,f,d⟩,e,c,a⟩
theorem yw(h:Ag (gk l k)=false):cQ l (k+1)=false:=by simp[cQ,h]
theorem uY(h0:k≠0)(h:(gk l k).at_≠dF l k):cQ l (k+1)=false:=by
 have:((gk l k).at_==dF l k)=false:=by rw[kqi];exact h
 simp[cQ,this,h0]
theorem nQ(hp:cQ l k=true)(h:Ag (gk l k)=true)(hn:k=0\/(gk l k).at_=dF l k):cQ l (k+1)=true:=by
 rcases hn with a|a
 .subst a;simp[cQ,h]
 simp[cQ,hp,h,a]
theorem nP(h:cQ l k=true):128<=dF l k/\dF l k<=2048:=by
 cases k with
 | zero=>simp[dF]
 | succ k =>obtain⟨a,_⟩:=dK h (kj5 k);have:=(eh _).1 a;simp only[dF];omega
def aA (b:Bk):Bool:=b.kind==1&&b.mark
def aL:List Bk->Int->List Int
 | [],_=>[]
 | b::l,s=>if aA b then s::aL l (s+b.size) else 0::aL l s
def aD:List Bk->Int->Int
 | [],s=>s
 | b::l,s=>if aA b then aD l (s+b.size) else aD l s
def gt:List Bk->Int
 | []=>0
 | b::l=>if aA b then gt l else b.size+gt l
def nz (l:List Bk):Int:=if l.length=0 then 2048 else (gk l 0).at_
def d7 (l:List Bk) (s:Int):Int:=if bV l=0 then (if s<128 then 2 else if nz l<s then 2 else if s%2=0 then 0 else 2) else 8
theorem cN(l:List Bk)(s:Int):(aL l s).length=l.length:=by
 induction l generalizing s with
 | nil=>rfl
 | cons b l ih=>simp only[aL];split<;>simp[ih]
theorem gz(a b:List Bk)(s:Int):aD (a++b) s=aD b (aD a s):=by
 induction a generalizing s with
 | nil=>rfl
 | cons x a ih=>simp only[kzr,aD];split<;>exact ih _
theorem jh(a b:List Bk)(s:Int):aL (a++b) s=aL a s++aL b (aD a s):=by
 induction a generalizing s with
 | nil=>rfl
 | cons x a ih=>simp only[kzr,aL,aD];split<;>simp[ih]
theorem pI(a b:List Bk):gt (a++b)=gt a+gt b:=by
 induction a with
 | nil=>simp[gt]
 | cons x a ih=>simp only[kzr,gt];split<;>omega
theorem fX(h:k<l.length)(s:Int):aD (l.take (k+1)) s=if aA l[k] then aD (l.take k) s+l[k].size else aD (l.take k) s:=by rw[kqq h,gz];rfl
theorem io(h:k<l.length)(s:Int):aL (l.take (k+1)) s=aL (l.take k) s++[if aA l[k] then aD (l.take k) s else 0]:=by rw[kqq h,jh];simp only[aL];split<;>rfl
theorem sb(h:k<l.length):gt (l.take (k+1))=if aA l[k] then gt (l.take k) else gt (l.take k)+l[k].size:=by rw[kqq h,pI];simp only[gt];split<;>omega
def nB (l:List Bk) (k:Nat):Int:=if k=0 then 0 else dF l k-(gk l 0).at_
theorem nX(h:cQ l k=true)(hk:k<=l.length)(s:Int):0<=aD (l.take k) s-s/\0<=gt (l.take k)/\(aD (l.take k) s-s)+gt (l.take k)=nB l k/\nB l k<=1920:=by
 induction k with
 | zero=>simp[aD,gt,nB]
 | succ k ih =>
  have a:k<l.length:=by omega
  obtain⟨i1,i2,i3,i4⟩:=ih (fh h (kzx k)) (by omega);obtain⟨d,b⟩:=dK h (kj5 k);have d:=(eh _).1 d;have hb0:=(eh _).1 (dK h (Nat.succ_pos k)).1;rw[fX a,sb a];have e:nB l (k+1)=nB l k+(gk l k).size:=by
   unfold nB;rw[if_neg (Nat.succ_ne_zero k),show dF l (k+1)=(gk l k).at_+(gk l k).size from rfl];by_cases c:k=0
   .subst c;rw[if_pos rfl];omega
   rw[if_neg c];rcases b with b|b
   .exact absurd b c
   omega
  have f:nB l (k+1)<=1920:=by unfold nB;rw[if_neg (Nat.succ_ne_zero k),show dF l (k+1)=(gk l k).at_+(gk l k).size from rfl];omega
  rw[e] at f |-;rw[<-bo l k a];split<;>omega
theorem y8(h:bV l=0):nz l<=2048:=by
 unfold nz;split
 .omega
 have:=(eh _).1 (dK (dg h).2 (show 0<l.length by omega)).1;omega
theorem gA(h:bV l=0)(hk:k<=l.length)(hs:128<=s)(hm:s<=nz l):128<=aD (l.take k) s/\aD (l.take k) s<=2048:=by
 obtain⟨h1,a⟩:=dg h;have hmb:=y8 h;obtain⟨i1,i2,c,i4⟩:=nX (fh a hk) hk s;refine⟨by omega,?_⟩;by_cases b:k=0
 .subst b;simp[aD];omega
 have hn:=(nP (fh a hk)).2;have d:l.length≠0:=by omega
 simp only[nB,b,if_false] at c;simp only[nz,d,if_false] at hm;omega
theorem yM{xs:Int}(hx:gk l k=⟨xa,xs,xk,xt,xm,xn⟩)(hn:dF l k=nx)(h:¬ ((xk=1\/xk=2)/\2<=xs/\xs<=2048/\xs%2=0/\128<=xa/\xa%2=0/\xa<=2048-xs/\(k=0\/xa=nx))):cQ l (k+1)=false:=by
 by_cases b:Ag (gk l k)=true
 .have a:=(eh _).1 b;rw[hx] at a;dsimp only at a;refine uY (by omega) ?_;rw[hx,hn];dsimp only;omega
 exact yw (by cases hq:Ag (gk l k)<;>simp_all)
theorem sm{xs:Int}(hx:gk l k=⟨xa,xs,xk,xt,xm,xn⟩)(hn:dF l k=nx)(hp:cQ l k=true)(h:(xk=1\/xk=2)/\2<=xs/\xs<=2048/\xs%2=0/\128<=xa/\xa%2=0/\xa<=2048-xs/\(k=0\/xa=nx)):cQ l (k+1)=true:=by
 refine nQ hp ((eh _).2 ?_) ?_
 .rw[hx];dsimp only;omega
 rw[hx,hn];dsimp only;omega
theorem Di(h:bV l≠0):d7 l s=bV l:=by
 rcases ve l with a|a
 .exact absurd a h
 simp[d7,a]
theorem Fk(h:bV l=0)(h2:s<128\/nz l<s\/s%2≠0):d7 l s=2:=by
 unfold d7;rw[if_pos h];by_cases a:s<128
 .rw[if_pos a]
 rw[if_neg a];by_cases b:nz l<s
 .rw[if_pos b]
 rw[if_neg b,if_neg (by omega)]
theorem xS(h:bV l=0)(h2:128<=s/\s<=nz l/\s%2=0):d7 l s=0:=by unfold d7;rw[if_pos h,if_neg (by omega),if_neg (by omega),if_pos h2.2.2]
theorem cZ(h:d7 l s=0):bV l=0/\128<=s/\s<=nz l/\s%2=0:=by
 unfold d7 at h;split at h
 .split at h
  .simp at h
  split at h
  .simp at h
  split at h
  .exact ⟨by assumption,by omega,by omega,by assumption⟩
  simp at h
 simp at h
theorem rG(h:bV l=0)(hm:s<=nz l)(hk:k<l.length):aD (l.take k) s<=(gk l k).at_:=by
 obtain⟨h1,c⟩:=dg h;obtain⟨i1,i2,d,i4⟩:=nX (fh c (kjf hk)) (kjf hk) s;have e:l.length≠0:=by omega
 simp only[nz,e,if_false] at hm;by_cases a:k=0
 .subst a;simp[aD];exact hm
 simp only[nB,a,if_false] at d;rcases (dK c hk).2 with b|b
 .exact absurd b a
 omega
theorem jX(hk:k<l.length):(aL l s)[k]? = some (if aA (gk l k) then aD (l.take k) s else 0):=by
 have b:=io hk s;have a:aL l s=aL (l.take (k+1)) s++aL (l.drop (k+1)) (aD (l.take (k+1)) s):=by rw[<-jh,kz2]
 have c:(aL (l.take k) s).length=k:=by rw[cN,kzd];omega
 rw[a,b,kku,kxp (by omega),c,bo l k hk];simp
def C4 (s b:Nat):Nat:=((s ^^^ b)*1099511628211)%18446744073709551616
def iC (w i:Nat):Nat:=w/256 ^ i%256
def yQ (s w:Nat):Nat->Nat
 | 0=>s
 | k+1=>C4 (yQ s w k) (iC w k)
def fnvW (s w:Nat):Nat:=yQ s w 8
def bt (s:Nat):List Nat->Nat
 | []=>s
 | w::l=>bt (fnvW s w) l
def iH (w:Nat):Nat:=fnvW 14695981039346656037 w
theorem qA(w i:Nat):iC w i<256:=kz1 _ (by omega)
theorem EG(s b:Nat):C4 s b<18446744073709551616:=kz1 _ (by omega)
theorem r9{s:Nat}(hs:s<18446744073709551616)(w k:Nat):yQ s w k<18446744073709551616:=by
 cases k with
 | zero=>exact hs
 | succ k=>exact EG _ _
theorem Do{s:Nat}(hs:s<18446744073709551616)(w:Nat):fnvW s w<18446744073709551616:=r9 hs w 8
theorem jq{s:Nat}(hs:s<18446744073709551616)(l:List Nat):bt s l<18446744073709551616:=by
 induction l generalizing s with
 | nil=>exact hs
 | cons w l ih=>exact ih (Do hs w)
theorem nJ(s:Nat)(a b:List Nat):bt s (a++b)=bt (bt s a) b:=by
 induction a generalizing s with
 | nil=>rfl
 | cons w a ih=>exact ih _
theorem ly{l:List Nat}(h:k<l.length)(s:Nat):bt s (l.take (k+1))=fnvW (bt s (l.take k)) l[k]:=by rw[kqq h,nJ];rfl
theorem DF(s b:Nat)(hb:b<256):s-s%256+((s%256) ^^^ b)=s ^^^ b:=by
 have d:(s%256) ^^^ b<2 ^ 8:=Nat.xor_lt_two_pow (kz1 _ (by omega)) hb;have c:s-s%256=2 ^ 8*(s/256):=by have:=kk7 s 256;omega
 apply Nat.eq_of_testBit_eq;intro j;rw[c,Nat.testBit_two_pow_mul_add _ d,Nat.testBit_xor];split
 .rename_i hj;rw[Nat.testBit_xor,show (256:Nat)=2 ^ 8 from rfl,Nat.testBit_mod_two_pow];simp[hj]
 rename_i hj;have a:b.testBit j=false:=Nat.testBit_lt_two_pow (kxi hb (by
  have:2 ^ 8<=2 ^ j:=kjk (by omega) (by omega)
  simpa using this))
 rw[Nat.testBit_xor,a,Bool.xor_false,show (256:Nat)=2 ^ 8 from rfl,<-Nat.shiftRight_eq_div_pow,Nat.testBit_shiftRight];congr 1;omega
def iF (b:Bk):Bool:=(decide (2<=b.size)&&b.size%2==0)&&((b.kind==1&&(decide (0<=b.typ)&&(decide (b.typ<8)&&decide (b.size<=10))))||(b.kind==2&&(b.typ==0&&(!b.mark&&decide (b.size<=1920)))))
theorem bj(b:Bk):iF b=true↔(2<=b.size/\b.size%2=0)/\(b.kind=1/\0<=b.typ/\b.typ<8/\b.size<=10\/b.kind=2/\b.typ=0/\b.mark=false/\b.size<=1920):=by simp only[iF,kqw,kje,kqu,kzw,kxo]
def lO (m:Bool):Nat:=if m then 1 else 0
def jN (b:Bk):Nat:=b.kind.toNat+lO b.mark*256+b.typ.toNat*512+b.size.toNat*65536
def cC (b:Bk):Nat:=jN b+iH (jN b)%4294967296*4294967296
def ah (w:Nat):Bk:=⟨0,(w/65536%65536:Nat),(w%256:Nat),(w/512%128:Nat),w/256%2==1,0⟩
def ay (w:Nat):Bool:=iF (ah w)&&cC (ah w)==w
theorem zN(m:Bool):lO m<=1:=by cases m<;>simp[lO]
theorem pp(h:iF b=true):b.kind.toNat<256/\b.typ.toNat<128/\b.size.toNat<65536/\0<=b.kind/\0<=b.typ/\0<=b.size/\b.size<=1920:=by have:=(bj b).1 h;omega
theorem t9(h:iF b=true):jN b<4294967296:=by obtain⟨h1,h2,h3,-⟩:=pp h;have:=zN b.mark;unfold jN;omega
theorem po(h:iF b=true):cC b<18446744073709551616:=by have h1:=t9 h;have h2:iH (jN b)%4294967296<4294967296:=kz1 _ (by omega);unfold cC;omega
theorem kF(h:iF b=true):ah (cC b)=⟨0,b.size,b.kind,b.typ,b.mark,0⟩:=by
 obtain⟨h1,h2,h3,h4,h5,h6,h7⟩:=pp h;have hm:=zN b.mark;unfold ah cC;generalize iH (jN b)%4294967296=t;have hl:jN b=b.kind.toNat+lO b.mark*256+b.typ.toNat*512+b.size.toNat*65536:=rfl;generalize jN b=q at *;generalize a:lO b.mark=m at *;have d:(q+t*4294967296)/65536%65536=b.size.toNat:=by omega
 have f:(q+t*4294967296)%256=b.kind.toNat:=by omega
 have e:(q+t*4294967296)/512%128=b.typ.toNat:=by omega
 have c:(q+t*4294967296)/256%2=m:=by omega
 rw[d,f,e,c];congr 1
 .omega
 .omega
 .omega
 rw[<-a];cases b.mark<;>simp[lO]
theorem vn{a:Bk}(h1:a.size=b.size)(h2:a.kind=b.kind)(h3:a.typ=b.typ)(h4:a.mark=b.mark):cC a=cC b/\iF a=iF b:=by unfold cC jN iF;rw[h1,h2,h3,h4];exact⟨rfl,rfl⟩
theorem nW(h:iF b=true):ay (cC b)=true:=by unfold ay;rw[kF h];have:=vn (a:=⟨0,b.size,b.kind,b.typ,b.mark,0⟩) (b:=b) rfl rfl rfl rfl;rw[this.1,this.2,h];simp
def wd (ws:List Nat) (i:Nat):Nat:=ws[i]?.getD 0
def bkAt (ws:List Nat) (i:Nat):Bk:={ ah (wd ws i) with at_:=(i:Nat),next:=wd ws (i+1) }
def stands (ws:List Nat) (i:Nat):Bool:=ay (wd ws i)&&decide ((ah (wd ws i)).size<=(ws.length:Int)-i)
def szAt (ws:List Nat) (i:Nat):Nat:=wd ws i/65536%65536
def mA (ws:List Nat):Nat->Nat->Option (List Bk)
 | 0,i=>if ws.length<=i then some [] else none
 | f+1,i=>if ws.length<=i then some [] else if stands ws i then (mA ws f (i+szAt ws i)).map (bkAt ws i :: ·) else none
def blocks (ws:List Nat) (i:Nat):Option (List Bk):=mA ws ws.length i
theorem ax(h:stands ws i=true):2<=szAt ws i/\szAt ws i%2=0/\i+szAt ws i<=ws.length:=by unfold stands ay at h;simp only[kqw,kzw] at h;obtain⟨⟨a,_⟩,b⟩:=h;have c:=(bj _).1 a;simp only[ah] at b c;unfold szAt;omega
theorem ou{f:Nat}(h:ws.length-i<=f):∀ {g:Nat},ws.length-i<=g->mA ws f i=mA ws g i:=by
 induction f generalizing i with
 | zero =>
  intro g _;cases g with
  | zero=>rfl
  | succ g=>simp only[mA];rw[if_pos (by omega),if_pos (by omega)]
 | succ f ih =>
  intro g hg;cases g with
  | zero=>simp only[mA];rw[if_pos (by omega),if_pos (by omega)]
  | succ g =>
   simp only[mA];split
   .rfl
   split
   .rename_i hs;have:=ax hs;rw[ih (i:=i+szAt ws i) (by omega) (g:=g) (by omega)]
   rfl
theorem aC(h:ws.length<=i):blocks ws i=some []:=by
 unfold blocks;cases a:ws.length with
 | zero=>simp[mA,a]
 | succ n=>rw[mA,if_pos (by omega)]
theorem aO(h:i<ws.length)(hs:stands ws i=true):blocks ws i=(blocks ws (i+szAt ws i)).map (bkAt ws i :: ·):=by have hsz:=ax hs;unfold blocks;rw[ou (f:=ws.length) (i:=i) (by omega) (g:=ws.length+1) (by omega),mA,if_neg (by omega),if_pos hs]
theorem da(h:i<ws.length)(hs:stands ws i=false):blocks ws i=none:=by unfold blocks;rw[ou (f:=ws.length) (i:=i) (by omega) (g:=ws.length+1) (by omega),mA,if_neg (by omega),if_neg (by rw[hs];exact Bool.false_ne_true)]
def cm (a:Nat):List Nat:=(List.range (a%256)).map λi=>a/4 ^ (i+4)%4
def ny:List Nat->Nat->Nat
 | [],_=>0
 | k::l,j=>k*4 ^ j+ny l (j+1)
def jK (l:List Nat):Nat:=l.length+ny l 4
def fc (l:List Nat):Bool:=l.all λk=>decide (1<=k)&&decide (k<=3)
def cR (l:List Nat):Int:=if 8<l.length then 4 else if fc l=true then 0 else 8
def aX (n:Nat):Nat:=2+(n+1)/2*2
def bE (a b:Nat):Bool:=(decide (a%256<=8)&&fc (cm a))&&(jK (cm a)==a&&iH a==b)
theorem cV(a:Nat):(cm a).length=a%256:=by simp[cm]
theorem lQ(a i:Nat)(h:i<a%256):(cm a)[i]? = some (a/4 ^ (i+4)%4):=by simp[cm,h]
theorem mp(a b:List Nat)(j:Nat):ny (a++b) j=ny a j+ny b (j+a.length):=by
 induction a generalizing j with
 | nil=>simp[ny]
 | cons k a ih=>simp only[kzr,ny,ih,kq3];rw[show j+1+a.length=j+(a.length+1) by omega];omega
theorem rN(l:List Nat)(j:Nat)(h:∀k∈l,k<=3):ny l j+4 ^ j<=4 ^ (j+l.length):=by
 induction l generalizing j with
 | nil=>simp[ny]
 | cons k l ih =>have c:=ih (j+1) (λk a=>h k (by simp[a]));have b:=h k (by simp);simp only[ny,kq3];rw[show j+(l.length+1)=j+1+l.length by omega];have h3:k*4 ^ j<=3*4 ^ j:=kx2 _ b;rw[kju] at c;omega
theorem d9(l:List Nat):fc l=true↔∀k∈l,1<=k/\k<=3:=by simp[fc]
theorem z8{l:List Nat}(hk:k<l.length)(h:l[k]<1\/3<l[k]):fc l=false:=by
 cases a:fc l with
 | false=>rfl
 | true=>have:=(d9 l).1 a l[k] (kqs hk);omega
theorem rA{l:List Nat}(h:8<l.length):cR l=4:=by simp[cR,h]
theorem kY{l:List Nat}(h:l.length<=8)(hk:fc l=false):cR l=8:=by
 have:¬ 8<l.length:=by omega
 simp[cR,this,hk]
theorem iQ{l:List Nat}(h:l.length<=8)(hk:fc l=true):cR l=0:=by
 have:¬ 8<l.length:=by omega
 simp[cR,this,hk]
theorem j9{l:List Nat}(h:cR l=0):l.length<=8/\fc l=true:=by
 unfold cR at h;split at h
 .simp at h
 split at h
 .exact ⟨by omega,by assumption⟩
 simp at h
theorem Ez{l:List Nat}(h:l.length<=8)(hk:fc l=true):jK l<16777216:=by
 have h1:=rN l 4 (λk a=>((d9 l).1 hk k a).2);have h2:4 ^ (4+l.length)<=4 ^ 12:=kjk (by omega) (by omega);have h3:(4:Nat) ^ 12=16777216:=by decide
 have h4:(4:Nat) ^ 4=256:=by decide
 unfold jK;omega
def tyA (b:Bk):Nat:=96+2*b.typ.toNat
def db (ws:List Nat) (b:Bk):Bool:=bE (wd ws (tyA b)) (wd ws (tyA b+1))&&b.size==((aX (wd ws (tyA b)%256):Nat):Int)
def dA (ws:List Nat) (b:Bk):Bool:=b.kind != 1||db ws b
def bM (ws:List Nat):List Bk->Int->Bool
 | [],_=>true
 | b::l,s=>dA ws b&&(if aA b then ((b.next:Int)==s)&&bM ws l (s+b.size) else bM ws l s)
def aq:List Bk->Int->List (Int × Int)
 | [],_=>[]
 | b::l,s=>if aA b then (b.at_,s)::aq l (s+b.size) else aq l s
theorem jf(ws:List Nat)(a b:List Bk)(s:Int):bM ws (a++b) s=(bM ws a s&&bM ws b (aD a s)):=by
 induction a generalizing s with
 | nil=>simp[bM,aD]
 | cons x a ih =>
  simp only[kzr,bM,aD];split
  .rw[ih];simp only[Bool.and_assoc]
  rw[ih];simp only[Bool.and_assoc]
theorem fl(a b:List Bk)(s:Int):aq (a++b) s=aq a s++aq b (aD a s):=by
 induction a generalizing s with
 | nil=>rfl
 | cons x a ih=>simp only[kzr,aq,aD];split<;>simp[ih]
theorem oa(h:k<l.length)(s:Int):bM ws (l.take (k+1)) s=(bM ws (l.take k) s&&(dA ws l[k]&&(!aA l[k]||(l[k].next:Int)==aD (l.take k) s))):=by rw[kqq h,jf];simp only[bM];cases aA l[k]<;>simp
theorem oB(h:k<l.length)(s:Int):aq (l.take (k+1)) s=aq (l.take k) s++(if aA l[k] then [(l[k].at_,aD (l.take k) s)] else []):=by rw[kqq h,fl];simp only[aq]
theorem ol(h:bM ws l s=true)(k:Nat):bM ws (l.take k) s=true:=by rw[<-kz2 k l,jf,kqw] at h;exact h.1
theorem qH(h:bM ws (l.take k) s=false):bM ws l s=false:=by
 cases a:bM ws l s with
 | false=>rfl
 | true=>rw[ol a k] at h;cases h
theorem ue(h:bM ws l s=true)(hk:k<l.length):dA ws l[k]=true/\(aA l[k]=true->(l[k].next:Int)=aD (l.take k) s):=by
 have b:=ol h (k+1);rw[oa hk] at b;simp only[kqw,kje,kxo,kqu] at b;exact⟨b.2.1,λc=>by
  rcases b.2.2 with a|a
  .rw[c] at a;cases a
  exact a⟩
theorem dr(P:Nat->List Bk->Prop)(h0:∀i,ws.length<=i->P i [])(h1:∀i l,i<ws.length->stands ws i=true->blocks ws (i+szAt ws i)=some l->P (i+szAt ws i) l->P i (bkAt ws i::l)):
 ∀i l,blocks ws i=some l->P i l:=by
 have c:∀n i l,ws.length-i<=n->blocks ws i=some l->P i l:=by
  intro n
  induction n with
  | zero =>intro i l e h;rw[aC (by omega)] at h;cases h;exact h0 i (by omega)
  | succ n ih =>
   intro i l e h;by_cases d:ws.length<=i
   .rw[aC d] at h;cases h;exact h0 i d
   cases a:stands ws i with
   | false=>rw[da (by omega) a] at h;cases h
   | true =>
    have hsz:=ax a;rw[aO (by omega) a] at h;cases b:blocks ws (i+szAt ws i) with
    | none=>rw[b] at h;cases h
    | some l' =>rw[b] at h;simp only[kzp,Option.some.injEq] at h;subst h;exact h1 i l' (by omega) a b (ih _ _ (by omega) b)
 exact λi l h=>c _ i l (kqb _) h
theorem ab(ws:List Nat)(i:Nat):(bkAt ws i).at_=(i:Int):=rfl
theorem aP(ws:List Nat)(i:Nat):(bkAt ws i).size=((szAt ws i:Nat):Int):=rfl
theorem fM(h:stands ws i=true):iF (ah (wd ws i))=true:=by unfold stands ay at h;simp only[kqw] at h;exact h.1.1
theorem ii(b:Bk)(l:List Bk)(k:Nat):gk (b::l) (k+1)=gk l k:=by simp[gk]
theorem nu(b:Bk)(l:List Bk):gk (b::l) 0=b:=rfl
theorem Ac(hn:ws.length<=2048)(h:stands ws i=true)(h1:128<=i)(h2:i%2=0):Ag (bkAt ws i)=true:=by have h3:=(bj _).1 (fM h);have h4:=ax h;rw[eh];have a:(bkAt ws i).kind=(ah (wd ws i)).kind:=rfl;have e2:(ah (wd ws i)).size=((szAt ws i:Nat):Int):=rfl;rw[ab,aP,a];omega
theorem a9(hn:ws.length<=2048):∀i l,blocks ws i=some l->128<=i->i%2=0->i<=ws.length ->
 2*l.length+i<=ws.length/\∀k,k<l.length->Ag (gk l k)=true/\(k=0->(gk l k).at_=(i:Int))/\(0<k->(gk l k).at_=(gk l (k-1)).at_+(gk l (k-1)).size):=by
 refine dr _ (λi _ _ _ _=>⟨by simp;omega,λk a=>by simp at a⟩) (λi l hi c hb f m d _=>?_);have b:=ax c;obtain⟨h3,g⟩:=f (by omega) (by omega) b.2.2;refine⟨by rw[kq3];omega,λk a=>?_⟩;cases k with
 | zero=>exact⟨Ac hn c m d,λ_=>rfl,λh=>absurd h (by omega)⟩
 | succ k =>
  rw[kq3] at a;obtain⟨e,j,n⟩:=g k (by omega);rw[ii];refine⟨e,λh=>absurd h (by omega),λ_=>?_⟩;rw[Nat.add_sub_cancel];cases k with
  | zero=>rw[nu,j rfl,ab,aP];omega
  | succ k=>rw[ii];exact n (by omega)
theorem ox(hn:ws.length<=2048)(h:blocks ws i=some l)(h1:128<=i)(h2:i%2=0)(h3:i<=ws.length):bV l=0:=by
 obtain⟨h4,d⟩:=a9 hn i l h h1 h2 h3;refine re (by omega) ?_;have b:∀k,k<=l.length->cQ l k=true:=by
  intro k
  induction k with
  | zero=>intro _;rfl
  | succ k ih =>
   intro hk;obtain⟨c,g2,e⟩:=d k (by omega);refine nQ (ih (by omega)) c ?_;rcases kxy k with a|a
   .exact .inl a
   right;obtain⟨m,rfl⟩:∃m,k=m+1:=⟨k-1,by omega⟩;exact e a
 exact b _ (kqb _)
theorem bN(h:blocks ws i=some l)(hi:i<ws.length):0<l.length/\gk l 0=bkAt ws i/\stands ws i=true/\blocks ws (i+szAt ws i)=some (l.drop 1):=by
 cases a:stands ws i with
 | false=>rw[da hi a] at h;cases h
 | true =>
  rw[aO hi a] at h;cases b:blocks ws (i+szAt ws i) with
  | none=>rw[b] at h;cases h
  | some l' =>rw[b] at h;simp only[kzp,Option.some.injEq] at h;subst h;exact⟨by simp,rfl,rfl,by simp⟩
theorem ja(hn:ws.length<=2048)(h:blocks ws i=some l)(h1:128<=i)(h2:i%2=0)(h3:i<=ws.length)(hs:128<=s)(hs2:s%2=0)(hs3:s<=(i:Int)):d7 l s=0:=by
 refine xS (ox hn h h1 h2 h3) ⟨hs,?_,hs2⟩;unfold nz;split
 .omega
 rename_i hl;have:=(a9 hn i l h h1 h2 h3).2 0 (by omega);rw[this.2.1 rfl];exact hs3
theorem jc:∀ {l:List Bk} {s:Int} {p:Nat},p<(aq l s).length->∃k,∃h:k<l.length,aA l[k]=true/\(aq l s)[p]? = some (l[k].at_,aD (l.take k) s)/\(aq (l.take k) s).length=p:=by
 intro l
 induction l with
 | nil=>intro s p h;simp[aq] at h
 | cons b l ih =>
  intro s p h;cases a:aA b with
  | true =>
   simp only[aq,a,if_true] at h |-;cases p with
   | zero=>exact⟨0,by simp,a,by simp[aD],rfl⟩
   | succ p =>
    obtain⟨k,c,f,e,d⟩:=ih (s:=s+b.size) (p:=p) (by simpa using h);refine⟨k+1,by simpa using c,f,?_,?_⟩
    .simp only[List.getElem?_cons_succ,e,kqd,kx8,aD,a,if_true]
    simp only[kx8,aq,a,if_true,kq3,d]
  | false =>
   simp only[aq,a,kzn,if_false] at h |-;obtain⟨k,c,f,e,d⟩:=ih (s:=s) (p:=p) h;refine⟨k+1,by simpa using c,f,?_,?_⟩
   .simp only[e,kqd,kx8,aD,a,kzn,if_false]
   simp only[kx8,aq,a,kzn,if_false,d]
theorem lv(ws:List Nat)(j v i:Nat):wd (ws.set j v) i=if j=i/\j<ws.length then v else wd ws i:=by
 unfold wd;by_cases h:j=i
 .subst h;by_cases a:j<ws.length
  .simp[a]
  simp[a]
 simp[h]
theorem gX(ws:List Nat)(v:Nat)(h:j≠i):wd (ws.set j v) i=wd ws i:=by rw[lv,if_neg (λa=>h a.1)]
def mZ (j v:Nat) (b:Bk):Bk:=if b.at_+1=(j:Int) then { b with next:=v } else b
theorem k9(v:Nat)(h:j≠i):stands (ws.set j v) i=stands ws i/\szAt (ws.set j v) i=szAt ws i:=by unfold stands szAt;rw[gX ws v h,kza];exact⟨rfl,rfl⟩
theorem tL{v:Nat}(h:j≠i)(hj:j<ws.length):bkAt (ws.set j v) i=mZ j v (bkAt ws i):=by
 unfold bkAt mZ;rw[gX ws v h,lv];by_cases e:j=i+1
 .rw[if_pos ⟨e,hj⟩,if_pos (by dsimp only;omega)]
 rw[if_neg (λa=>e a.1),if_neg (by dsimp only;omega)]
theorem vC{v:Nat}(hj:j%2=1)(hl:j<ws.length):∀i,i%2=0->blocks (ws.set j v) i=(blocks ws i).map (List.map (mZ j v)):=by
 have b:∀n i,ws.length-i<=n->i%2=0->blocks (ws.set j v) i=(blocks ws i).map (List.map (mZ j v)):=by
  intro n
  induction n with
  | zero=>intro i d _;rw[aC (by rw[kza];omega),aC (by omega)];rfl
  | succ n ih =>
   intro i d h2;by_cases hi:ws.length<=i
   .rw[aC (by rw[kza];omega),aC (by omega)];rfl
   obtain⟨c,e⟩:=k9 (ws:=ws) (j:=j) (i:=i) v (by omega);cases a:stands ws i with
   | false=>rw[da (by rw[kza];omega) (by rw[c,a]),da (by omega) a];rfl
   | true =>have hsz:=ax a;rw[aO (by rw[kza];omega) (by rw[c,a]),aO (by omega) a,e,ih _ (by omega) (by omega),tL (by omega) hl];cases blocks ws (i+szAt ws i)<;>rfl
 exact λi=>b _ i (kqb _)
theorem lo(h:bV l=0){m:Nat}(hk:k<l.length)(hm:m<k):(gk l m).at_<(gk l k).at_:=by
 obtain⟨_,c⟩:=dg h
 induction k with
 | zero=>omega
 | succ k ih =>
  have d:=dK c (show k+1<l.length from hk);have h4:=(eh _).1 (dK c (show k<l.length by omega)).1;have e:(gk l (k+1)).at_=(gk l k).at_+(gk l k).size:=by
   rcases d.2 with a|a
   .omega
   exact a
  rcases kq6 m k with b|b
  .have:=ih (by omega) b;omega
  have:m=k:=by omega
  subst this;omega
theorem uF(h:bV l=0){v:Nat}(hk:k<l.length)(hj:l[k].at_+1=(j:Int)):l.map (mZ j v)=l.set k { l[k] with next:=v }:=by
 apply List.ext_getElem (by simp);intro i a h2;have a:i<l.length:=by simpa using a
 rw[List.getElem_map,List.getElem_set];unfold mZ;by_cases e:k=i
 .subst e;rw[if_pos hj,if_pos rfl]
 rw[if_neg e];rw[if_neg ?_];intro h3;have e2:(gk l i).at_=(gk l k).at_:=by rw[bo l i a,bo l k hk];omega
 rcases Nat.lt_or_gt_of_ne e with b|b
 .have:=lo h a b;omega
 have:=lo h hk b;omega
theorem wc{ws':List Nat}(hf:∀b∈l,dA ws' b=dA ws b)(hf2:∀b v,b∈l->dA ws' { b with next:=v }=dA ws b):∀ {s:Int},bM ws l s=true->∀ {k:Nat} (e:k<l.length),aA l[k]=true->∀v:Nat,
 bM ws' (l.set k { l[k] with next:=v }) s=((v:Int)==aD (l.take k) s)/\aq (l.set k { l[k] with next:=v }) s=aq l s:=by
 induction l with
 | nil=>intro s _ k e;simp at e
 | cons b l ih =>
  intro s h k e d v;have i:=hf b (by simp);have f:=hf2 b v (by simp);have g:∀(l:List Bk),(∀b∈l,dA ws' b=dA ws b)->∀s,bM ws' l s=bM ws l s:=by
   intro l d
   induction l with
   | nil=>intro s;rfl
   | cons c l ih2 =>intro s;simp only[bM];rw[d c (by simp),ih2 (λb a=>d b (by simp[a])),ih2 (λb a=>d b (by simp[a]))]
  cases k with
  | zero =>have d:aA b=true:=d;have j:aA { b with next:=v }=true:=d;simp only[bM,d,if_true,kqw] at h;simp only[kqg,kqe,bM,j,if_true,aq,d,List.take_zero,aD,f,h.1,kzz];rw[g l (λb a=>hf b (by simp[a])),h.2.2,Bool.and_true];exact⟨rfl,trivial⟩
  | succ k =>
   have e:k<l.length:=by simpa using e
   have d:aA l[k]=true:=d;cases a:aA b with
   | true =>simp only[bM,a,if_true,kqw] at h;obtain⟨m,n⟩:=ih (λb a=>hf b (by simp[a])) (λb v a=>hf2 b v (by simp[a])) h.2.2 e d v;simp only[kqf,kqd,bM,a,if_true,aq,kx8,aD,i,h.1,h.2.1,kzz,m,n];exact⟨trivial,trivial⟩
   | false =>simp only[bM,a,kzn,if_false,kqw] at h;obtain⟨m,n⟩:=ih (λb a=>hf b (by simp[a])) (λb v a=>hf2 b v (by simp[a])) h.2 e d v;simp only[kqf,kqd,bM,a,kzn,if_false,aq,kx8,aD,i,h.1,kzz,m,n];exact⟨trivial,trivial⟩
def gP (n:Nat) (f s:Int):Bool:=(f%2 != 0)||((s%2 != 0)||(decide (s<128)||(decide (f<s)||decide ((n:Int)<f))))
def rO (n:Nat):Bool:=decide (256<=n)&&(decide (n<=2048)&&n%8==0)
theorem fV(h:gP n f s=false):f%2=0/\s%2=0/\128<=s/\s<=f/\f<=(n:Int):=by simp only[gP,kzo,kqp,kqc] at h;omega
theorem kw(n:Nat)(f s:Int):gP n f s=true↔¬ (f%2=0/\s%2=0/\128<=s/\s<=f/\f<=(n:Int)):=by
 constructor
 .intro h h2;have:gP n f s=false:=by simp only[gP,kzo,kqp,kqc];omega
  rw[this] at h;cases h
 intro h;cases a:gP n f s with
 | true=>rfl
 | false=>exact absurd (fV a) h
def lf (ws:List Nat) (f s:Int):Int:=match blocks ws f.toNat with
 | none=>50
 | some l=>if bM ws l s=true then 0 else 50
def bi (ws:List Nat) (f s:Int):Int:=if rO ws.length=true then (if gP ws.length f s=true then 2 else lf ws f s) else 8
def gj (ws:List Nat) (f s:Int):List (Int × Int):=if bi ws f s=0 then (match blocks ws f.toNat with | none=>[] | some l=>aq l s) else []
theorem bU(h:bi ws f s=0):rO ws.length=true/\gP ws.length f s=false/\∃l,blocks ws f.toNat=some l/\bM ws l s=true/\gj ws f s=aq l s:=by
 have b:=h;unfold bi at h;split at h
 .rename_i h1;split at h
  .simp at h
  rename_i h2;unfold lf at h;cases a:blocks ws f.toNat with
  | none=>rw[a] at h;simp at h
  | some l =>
   rw[a] at h;refine⟨h1,by simpa using h2,l,rfl,?_,?_⟩
   .dsimp only at h;split at h
    .assumption
    simp at h
   unfold gj;rw[if_pos b,a]
 simp at h
theorem iA(h1:rO ws.length=true)(h2:gP ws.length f s=false)(h3:blocks ws f.toNat=some l):bi ws f s=if bM ws l s=true then 0 else 50:=by unfold bi lf;rw[if_pos h1,h2,h3];rfl
theorem kA(h:rO n=true):256<=n/\n<=2048/\n%8=0:=by simp[rO] at h;omega
theorem bC :∀i l,blocks ws i=some l->i%2=0->∀k (h:k<l.length),∃a,l[k]=bkAt ws a/\a%2=0/\i<=a/\a<ws.length/\stands ws a=true/\blocks ws a=some (l.drop k):=by
 refine dr _ (λi _ _ k h=>by simp at h) (λi l c b f m g k h=>?_);have hsz:=ax b;cases k with
 | zero=>exact⟨i,rfl,g,kqb _,c,b,by rw[aO c b,f];rfl⟩
 | succ k =>obtain⟨a,o,n,h5,j,d,e⟩:=m (by omega) k (by simpa using h);exact⟨a,o,n,by omega,j,d,e⟩
theorem CP{w:Nat}(h:iF (ah w)=true)(hk:b.kind=(ah w).kind)(ht:b.typ=(ah w).typ)(h1:b.kind=1):tyA b+1<128:=by have:=(bj _).1 h;rw[<-hk,<-ht] at this;unfold tyA;omega
theorem AC{v:Nat}(hj:128<=j){a:Nat}(hs:stands ws a=true)(u:Nat):dA (ws.set j v) { bkAt ws a with next:=u }=dA ws (bkAt ws a):=by
 have e:=fM hs;unfold dA;show ((bkAt ws a).kind != 1||db (ws.set j v) { bkAt ws a with next:=u })=_;by_cases c:(bkAt ws a).kind=1
 .have h2:=CP (b:=bkAt ws a) e rfl rfl c;have d:wd (ws.set j v) (tyA (bkAt ws a))=wd ws (tyA (bkAt ws a)):=gX ws v (by omega);have f:wd (ws.set j v) (tyA (bkAt ws a)+1)=wd ws (tyA (bkAt ws a)+1):=gX ws v (by omega);unfold db;show (_||(bE (wd (ws.set j v) (tyA (bkAt ws a))) (wd (ws.set j v) (tyA (bkAt ws a)+1))&&(bkAt ws a).size==((aX (wd (ws.set j v) (tyA (bkAt ws a))%256):Nat):Int)))=_;rw[d,f]
 have:((bkAt ws a).kind != 1)=true:=by rw[kqt];exact c
 rw[this,kko,kko]
theorem vF(h:bi ws f s=0){p:Nat}(hp:p<(gj ws f s).length):∃a t:Nat,(gj ws f s)[p]? = some ((a:Int),(t:Int))/\128<=a/\a+1<ws.length/\wd ws (a+1)=t/\t<=2048 /\
 ∀v,(v=t->bi (ws.set (a+1) v) f s=0)/\(v≠t->bi (ws.set (a+1) v) f s=50):=by
 obtain⟨G,F,l,y,D,L⟩:=bU h;obtain⟨a1,K,P,a4,a5⟩:=fV F;have g:=kA G;rw[L] at hp |-;obtain⟨k,w,H,M,-⟩:=jc hp;obtain⟨a,e,b1,b2,b3,I,-⟩:=bC _ _ y (by omega) k w;have A:=ja (i:=f.toNat) g.2.1 y (by omega) (by omega) (by omega) (s:=s) P K (by omega);obtain⟨q,C,z,hs3⟩:=cZ A;have hbd:=gA q (kjf w) C z;have x:=(ue D w).2 H;have hsz:=ax I;have c:a+1<ws.length:=by omega
 have n:wd ws (a+1)=l[k].next:=by rw[e];rfl
 have r:l[k].at_=(a:Int):=by rw[e];rfl
 refine⟨a,l[k].next,by rw[M,r,x],by omega,c,n,by omega,λv=>?_⟩;have o:=vC (ws:=ws) (j:=a+1) (v:=v) (by omega) c f.toNat (by omega);rw[y,kzp,uF q w (by rw[r];omega)] at o;have d:∀b∈l,∀u,dA (ws.set (a+1) v) { b with next:=u }=dA ws b:=by intro b g u;obtain⟨m,N,rfl⟩:=kqv g;obtain⟨a',J,-,-,-,B,-⟩:=bC _ _ y (by omega) m N;rw[J];exact AC (by omega) B u
 obtain⟨O,-⟩:=wc (ws:=ws) (ws':=ws.set (a+1) v) (λb g=>by have:=d b g b.next;exact this) (λb u g=>d b g u) D w H v;rw[iA (by rw[kza];exact G) (by rw[kza];exact F) o,O,<-x];constructor
 .intro E;subst E;simp
 intro E;have:((v:Int)==(l[k].next:Int))=false:=by rw[kqi];omega
 rw[this];simp
def eF:List Nat->Nat->List Nat->List Nat
 | ws,_,[]=>ws
 | ws,t,v::l=>eF (ws.set t v) (t+1) l
theorem lh(l:List Nat):∀(ws:List Nat) (t:Nat),(eF ws t l).length=ws.length:=by
 induction l with
 | nil=>intro ws t;rfl
 | cons v l ih=>intro ws t;simp only[eF,ih,kza]
theorem qr(l:List Nat):∀(ws:List Nat) (t i:Nat),t+l.length<=ws.length->wd (eF ws t l) i=if t<=i/\i<t+l.length then l[i-t]?.getD 0 else wd ws i:=by
 induction l with
 | nil=>intro ws t i _;simp only[eF,kxc];rw[if_neg (by omega)]
 | cons v l ih =>
  intro ws t i c;rw[kq3] at c;simp only[eF,kq3];rw[ih (ws.set t v) (t+1) i (by rw[kza];omega),lv];by_cases b:t=i
  .subst b;rw[if_neg (by omega),if_pos ⟨rfl,by omega⟩,if_pos (by omega)];simp
  by_cases a:t+1<=i/\i<t+1+l.length
  .rw[if_pos a,if_pos (by omega)];obtain⟨m,rfl⟩:∃m,i=t+1+m:=⟨i-(t+1),by omega⟩;rw[show t+1+m-(t+1)=m by omega,show t+1+m-t=m+1 by omega];simp
  rw[if_neg a,if_neg (λh=>b h.1),if_neg (by omega)]
theorem eG{xs:List Nat}(hn:xs.length=ws.length):∀i,(∀j,i<=j->wd xs j=wd ws j)->blocks xs i=blocks ws i:=by
 have c:∀n i,ws.length-i<=n->(∀j,i<=j->wd xs j=wd ws j)->blocks xs i=blocks ws i:=by
  intro n
  induction n with
  | zero=>intro i h _;rw[aC (by omega),aC (by omega)]
  | succ n ih =>
   intro i h b;by_cases hi:ws.length<=i
   .rw[aC (by omega),aC (by omega)]
   have d:stands xs i=stands ws i:=by unfold stands;rw[b i (kqb _),hn]
   have f:szAt xs i=szAt ws i:=by unfold szAt;rw[b i (kqb _)]
   have e:bkAt xs i=bkAt ws i:=by unfold bkAt;rw[b i (kqb _),b (i+1) (by omega)]
   cases a:stands ws i with
   | false=>rw[da (by omega) (by rw[d,a]),da (by omega) a]
   | true =>have hsz:=ax a;rw[aO (by omega) (by rw[d,a]),aO (by omega) a,f,e,ih _ (by omega) (λj hj=>b j (by omega))]
 exact λi=>c _ i (kqb _)
theorem rX{xs:List Nat}(hw:∀j,j<128->wd xs j=wd ws j):∀ {l:List Bk},(∀b∈l,b.kind=1->tyA b+1<128)->∀s,bM xs l s=bM ws l s:=by
 intro l
 induction l with
 | nil=>intro _ s;rfl
 | cons b l ih =>
  intro h s;have e:dA xs b=dA ws b:=by
   unfold dA;by_cases c:b.kind=1
   .have h2:=h b (by simp) c;unfold db;rw[hw _ (by omega),hw _ (by omega)]
   have:(b.kind != 1)=true:=by rw[kqt];exact c
   rw[this,kko,kko]
  simp only[bM,e];rw[ih (λb a=>h b (by simp[a])),ih (λb a=>h b (by simp[a]))]
theorem iO(h:blocks ws i=some l)(h2:i%2=0):∀b∈l,b.kind=1->tyA b+1<128:=by intro b d c;obtain⟨m,f,rfl⟩:=kqv d;obtain⟨a,e,-,-,-,g,-⟩:=bC _ _ h h2 m f;rw[e] at c |-;exact CP (fM g) rfl rfl c
def eW (ws:List Nat) (f t:Int):Int:=if bi ws f t=0 then (match blocks ws f.toNat with | some (b::_)=>if b.mark then 0 else 6 | _=>6) else bi ws f t
def dG (ws:List Nat) (f:Nat):List Nat:=(List.range (szAt ws f)).map λi=>if i=0 then cC { ah (wd ws f) with mark:=false } else if i=1 then 0 else wd ws (f+i)
theorem vh{t:Int}(h:eW ws f t=0):bi ws f t=0/\∃a:Nat,f=(a:Int)/\a%2=0/\128<=a/\a<ws.length/\stands ws a=true/\aA (bkAt ws a)=true/\∃l,blocks ws a=some (bkAt ws a::l)/\blocks ws (a+szAt ws a)=some l:=by
 unfold eW at h;split at h
 .rename_i h0;refine⟨h0,?_⟩;obtain⟨h1,n,l,d,h4,h5⟩:=bU h0;obtain⟨a1,a2,a3,a4,a5⟩:=fV n;rw[d] at h;cases l with
  | nil=>simp at h
  | cons b l =>
   dsimp only at h;split at h
   .rename_i hm;refine⟨f.toNat,by omega,by omega,by omega,?_,?_⟩
    .rcases kq6 f.toNat ws.length with c|c
     .exact c
     rw[aC c] at d;simp at d
    have i:f.toNat<ws.length:=by
     rcases kq6 f.toNat ws.length with c|c
     .exact c
     rw[aC c] at d;simp at d
    obtain⟨_,j,k,p⟩:=bN d i;have j:b=bkAt ws f.toNat:=j;subst j;refine⟨k,?_,l,d,by simpa using p⟩;have m:=(bj _).1 (fM k);have g:(ah (wd ws f.toNat)).mark=true:=hm;have o:(bkAt ws f.toNat).kind=1:=by
     rcases m.2 with e|e
     .exact e.1
     rw[g] at e;exact absurd e.2.2.1 (by simp)
    simp[aA,o];exact hm
   simp at h
 rename_i h0;exact absurd h h0
theorem gc(ws:List Nat)(f:Nat):(dG ws f).length=szAt ws f:=by simp[dG]
theorem jT(ws:List Nat)(f i:Nat)(h:i<szAt ws f):(dG ws f)[i]? = some (if i=0 then cC { ah (wd ws f) with mark:=false } else if i=1 then 0 else wd ws (f+i)):=by simp[dG,h]
theorem yA{w:Nat}(h:iF (ah w)=true)(hk:(ah w).kind=1):iF { ah w with mark:=false }=true:=by
 have:=(bj _).1 h;rw[bj];show _/\((ah w).kind=1/\_\/_);rcases this.2 with a|a
 .exact ⟨this.1,.inl a⟩
 rw[hk] at a;exact absurd a.1 (by omega)
theorem fg{t:Int}(h:eW ws f t=0):∃a u n:Nat,f=(a:Int)/\t=(u:Int)/\n=szAt ws a/\2<=n/\n<=10/\128<=u/\u<=a/\a+n<=ws.length/\stands ws a=true/\aA (bkAt ws a)=true /\
 (∃l,blocks ws a=some (bkAt ws a::l)/\blocks ws (a+n)=some l/\blocks (eF ws u (dG ws a)) (a+n)=some l/\bi (eF ws u (dG ws a)) ((a+n:Nat):Int) ((u+n:Nat):Int)=0 /\
  gj ws f t=((a:Int),(u:Int))::gj (eF ws u (dG ws a)) ((a+n:Nat):Int) ((u+n:Nat):Int)) /\
 wd (eF ws u (dG ws a)) u=cC { ah (wd ws a) with mark:=false }/\iF { ah (wd ws a) with mark:=false }=true:=by
 obtain⟨L,a,rfl,G,c2,c3,r,m,l,s,D⟩:=vh h;obtain⟨E,J,l',F,A,K⟩:=bU L;obtain⟨a1,a2,a3,a4,a5⟩:=fV J;have B:=kA E;rw[kqj,s] at F;cases F;obtain⟨u,rfl⟩:=kq2 (show 0<=t by omega);have q:=ax r;have C:(bkAt ws a).kind=1:=by simp[aA] at m;exact m.1
 have x:=(bj _).1 (fM r);have o:szAt ws a<=10:=by
  have e1:(ah (wd ws a)).size=((szAt ws a:Nat):Int):=rfl;have y:(ah (wd ws a)).kind=1:=C;rcases x.2 with w|w
  .omega
  rw[y] at w;exact absurd w.1 (by omega)
 have v:=yA (fM r) C;have d:=gc ws a;have g:∀i,wd (eF ws u (dG ws a)) i=if u<=i/\i<u+szAt ws a then (dG ws a)[i-u]?.getD 0 else wd ws i:=by intro i;rw[qr _ _ _ _ (by rw[d];omega),d]
 have c:∀j,a+szAt ws a<=j->wd (eF ws u (dG ws a)) j=wd ws j:=λj I=>by rw[g,if_neg (by omega)]
 have k:blocks (eF ws u (dG ws a)) (a+szAt ws a)=some l:=by rw[eG (lh _ _ _) _ c,D]
 have z:∀j,j<128->wd (eF ws u (dG ws a)) j=wd ws j:=λj I=>by rw[g,if_neg (by omega)]
 have M:bM ws l ((u:Int)+(szAt ws a:Nat))=true:=by simp only[bM,m,if_true,kqw] at A;exact A.2.2
 have H:bM (eF ws u (dG ws a)) l ((u+szAt ws a:Nat):Int)=true:=by
  rw[rX z (λb B=>iO s G b (by simp[B]))]
  simpa using M
 have p:bi (eF ws u (dG ws a)) ((a+szAt ws a:Nat):Int) ((u+szAt ws a:Nat):Int)=0:=by
  rw[iA (by rw[lh];exact E) ?_ (by rw[kqj];exact k),if_pos H];rw[lh];cases N:gP ws.length ((a+szAt ws a:Nat):Int) ((u+szAt ws a:Nat):Int) with
  | false=>rfl
  | true=>exact absurd (by omega) ((kw _ _ _).1 N)
 refine⟨a,u,szAt ws a,rfl,rfl,rfl,q.1,o,by omega,by omega,q.2.2,r,m,⟨l,s,D,k,p,?_⟩,?_,v⟩
 .rw[K];have e:gj (eF ws u (dG ws a)) ((a+szAt ws a:Nat):Int) ((u+szAt ws a:Nat):Int)=aq l ((u+szAt ws a:Nat):Int):=by unfold gj;rw[if_pos p,kqj,k]
  rw[e];simp only[aq,m,if_true,ab,aP];simp
 rw[g,if_pos (by omega),Nat.sub_self,jT _ _ _ (by omega),kq4,if_pos rfl]
def br (b:Bk) (s:Int):Nat:=if aA b then s.toNat else 0
def eP (b:Bk) (s:Int):Int:=if aA b then s+b.size else s
def aT:List Bk->Int->List En
 | [],_=>[]
 | b::l,s=>(if b.kind=1/\b.next≠br b s then [⟨b.at_+1,br b s⟩] else [])++aT l (eP b s)
def fwB:List Bk->Int->List Bk
 | [],_=>[]
 | b::l,s=>(if b.kind=1 then { b with next:=br b s } else b)::fwB l (eP b s)
def aj:List Nat->List En->List Nat
 | ws,[]=>ws
 | ws,e::l=>aj (if 0<=e.a/\e.a<(ws.length:Int) then ws.set e.a.toNat e.v else ws) l
theorem aE(l:List En):∀ws:List Nat,(aj ws l).length=ws.length:=by
 induction l with
 | nil=>intro ws;rfl
 | cons e l ih=>intro ws;simp only[aj,ih];split<;>simp
theorem ey(a b:List En):∀ws:List Nat,aj ws (a++b)=aj (aj ws a) b:=by
 induction a with
 | nil=>intro ws;rfl
 | cons e a ih=>intro ws;simp only[kzr,aj,ih]
theorem bg(l:List En):∀(ws:List Nat) (i:Nat),(∀e∈l,e.a≠(i:Int))->wd (aj ws l) i=wd ws i:=by
 induction l with
 | nil=>intro ws i _;rfl
 | cons e l ih =>
  intro ws i h;simp only[aj];rw[ih _ i (λx b=>h x (by simp[b]))];split
  .rename_i hb;exact gX ws _ (by have:=h e (by simp);omega)
  rfl
theorem qu(a b:List Bk):∀s,aT (a++b) s=aT a s++aT b (aD a s):=by
 induction a with
 | nil=>intro s;rfl
 | cons x a ih =>intro s;simp only[kzr,aT,ih,aD,eP,kku];cases aA x<;>simp
theorem oT :∀i l,blocks ws i=some l->∀s,∀e∈aT l s,(i:Int)+1<=e.a/\e.a<(ws.length:Int):=by
 refine dr _ (λi _ s e h=>by simp[aT] at h) (λi l hi b hb c s e h=>?_);have hsz:=ax b;simp only[aT,kzt] at h;rcases h with h|h
 .split at h
  .simp only[kq0,kzs,or_false] at h;subst h;show (i:Int)+1<=(bkAt ws i).at_+1/\(bkAt ws i).at_+1<_;rw[ab];omega
  simp at h
 have:=c _ e h;omega
theorem pP{v:Nat}(h:i+1<ws.length):bkAt (ws.set (i+1) v) i={ bkAt ws i with next:=v }:=by rw[tL (by omega) h];unfold mZ;rw[if_pos (by rw[ab];omega)]
theorem rI{v:Nat}(h:b.next=v):{ b with next:=v }=b:=by subst h;rfl
theorem r7:∀n (ws:List Nat) (i:Nat) (l:List Bk),ws.length-i<=n->blocks ws i=some l->∀s,blocks (aj ws (aT l s)) i=some (fwB l s)/\∀j,j<=i->wd (aj ws (aT l s)) j=wd ws j:=by
 intro n
 induction n with
 | zero =>intro ws i l B h s;rw[aC (by omega)] at h;cases h;exact⟨by simp only[aT,aj,fwB];exact aC (by omega),λj _=>rfl⟩
 | succ n ih =>
  intro ws i l B h s;by_cases c:ws.length<=i
  .rw[aC c] at h;cases h;exact⟨by simp only[aT,aj,fwB];exact aC c,λj _=>rfl⟩
  have c:i<ws.length:=by omega
  cases f:stands ws i with
  | false=>rw[da c f] at h;cases h
  | true =>
   have hsz:=ax f;rw[aO c f] at h;cases o:blocks ws (i+szAt ws i) with
   | none=>rw[o] at h;cases h
   | some l' =>
    rw[o] at h;simp only[kzp,Option.some.injEq] at h;subst h;obtain⟨a,p,b,q,r,d,e⟩:∃a,aj ws (aT (bkAt ws i::l') s)=aj a (aT l' (eP (bkAt ws i) s))/\a.length=ws.length/\bkAt a i=(if (bkAt ws i).kind=1 then { bkAt ws i with next:=br (bkAt ws i) s } else bkAt ws i)/\stands a i=stands ws i/\szAt a i=szAt ws i/\∀j,j≠i+1->wd a j=wd ws j:=by
     by_cases g:(bkAt ws i).kind=1/\(bkAt ws i).next≠br (bkAt ws i) s
     .refine ⟨ws.set (i+1) (br (bkAt ws i) s),?_,by simp,?_,(k9 _ (by omega)).1,(k9 _ (by omega)).2,λj v=>gX ws _ (by omega)⟩
      .simp only[aT];rw[if_pos g,ey];simp only[aj];rw[if_pos (by rw[ab];omega),ab,show ((i:Int)+1).toNat=i+1 by omega]
      rw[pP (by omega),if_pos g.1]
     refine⟨ws,?_,rfl,?_,rfl,rfl,λj _=>rfl⟩
     .simp only[aT];rw[if_neg g,kz5]
     split
     .rename_i hk;have:(bkAt ws i).next=br (bkAt ws i) s:=by
       rcases Nat.decEq (bkAt ws i).next (br (bkAt ws i) s) with t|t
       .exact absurd ⟨hk,t⟩ g
       exact t
      exact (rI this).symm
     rfl
    have u:blocks a (i+szAt ws i)=some l':=by rw[eG b _ (λj v=>e j (by omega)),o]
    obtain⟨w,k⟩:=ih a (i+szAt ws i) l' (by omega) u (eP (bkAt ws i) s);rw[p];obtain⟨E,A⟩:=xq (aT l' (eP (bkAt ws i) s));rw[A] at w k |-;have m:wd (aj a E) i=wd a i:=k i (by omega);have y:wd (aj a E) (i+1)=wd a (i+1):=k (i+1) (by omega);have C:stands (aj a E) i=stands a i:=by unfold stands;rw[m,aE]
    have x:szAt (aj a E) i=szAt a i:=by unfold szAt;rw[m]
    have z:bkAt (aj a E) i=bkAt a i:=by unfold bkAt;rw[m,y]
    refine⟨?_,λj v=>by rw[k j (by omega)];exact e j (by omega)⟩;rw[aO (by rw[aE,b];exact c) (by rw[C,r,f]),x,z,d,w,q];rfl
theorem Bb :∀ {s:Int},aD (fwB l s) s=aD l s/\aq (fwB l s) s=aq l s/\(fwB l s).map (λb=>(b.at_,b.size,b.kind,b.mark))=l.map (λb=>(b.at_,b.size,b.kind,b.mark)):=by
 induction l with
 | nil=>intro s;exact⟨rfl,rfl,rfl⟩
 | cons b l ih =>
  intro s;have f:aA (if b.kind=1 then { b with next:=br b s } else b)=aA b:=by split<;>rfl
  have i:(if b.kind=1 then { b with next:=br b s } else b).size=b.size:=by split<;>rfl
  have e:(if b.kind=1 then { b with next:=br b s } else b).at_=b.at_:=by split<;>rfl
  have h:(if b.kind=1 then { b with next:=br b s } else b).kind=b.kind:=by split<;>rfl
  have g:(if b.kind=1 then { b with next:=br b s } else b).mark=b.mark:=by split<;>rfl
  simp only[fwB,aD,aq,kx0,f,i,e,h,g];unfold eP;split
  .obtain ⟨c,a,d⟩:=ih (s:=s+b.size);rw[c,a,d];exact⟨rfl,rfl,rfl⟩
  obtain⟨c,a,d⟩:=ih (s:=s);rw[c,a,d];exact⟨rfl,rfl,rfl⟩
end Go.Proofs.YtpcajamacpbjcaaGreat
