/- Texts laid together: Base BrkP BrkQ BrkX HeapP KindP FwdP FwdQ FwdR SldP FwbP. -/
import Derived.Test.YtpcajamacpbjcaaGreatRows
import Derived.WalkKit
import Derived.WalkSpells
import Derived.WalkLawsBesides
import Derived.Deep.QuietTactic
import Derived.BigQuiet
import Derived.Lib.Hide
import Derived.Deep.AppendLies
import Derived.Deep.OwnRows
import Derived.Deep.Cut
import Derived.Deep.Draws
import Derived.Deep.LoopGhost
import Derived.Deep.RegionWith
import Derived.WalkSmall
import Derived.Test.YtpcajamacpbjcaaGreatZA
set_option maxHeartbeats 16000000
set_option linter.all false
namespace Go.Proofs.YtpcajamacpbjcaaGreat
open Go.RowKit
variable {p:Addr}{xm:Bool}{f nx s xa xk xt:Int}{ws:List Nat}{xs:List Value}{B H g i j k n sz xn:Nat}{o:Obj}{A:Option Addr}{α:Type}{e t:TypeId}{v x y:Value}{w w' w1 wr:World}
def Rd (w:World) (B:Nat) (A:Option Addr) (xs:List Value):Prop:=
 xs≠[]->∃b off,A=some ⟨b,off,none⟩/\b<B/\∀j (h:j<xs.length),w.cell? ⟨b,off+j,none⟩=some xs[j]
section
variable {w w':World} {B B':Nat} {A:Option Addr} {xs:List Value}
theorem Rd.nil_:Rd w B A []:=λh=>absurd rfl h
theorem Rd.keep(h:Rd w B A xs)(hk:∀p:Addr,p.block<B->w'.cell? p=w.cell? p):Rd w' B A xs:=λg=>by obtain⟨b,a,e,c,f⟩:=h g;exact⟨b,a,e,c,λj d=>(hk ⟨b,a+j,none⟩ c).trans (f j d)⟩
theorem Rd.more(h:Rd w B A xs)(hB:B<=B'):Rd w B' A xs:=λd=>by obtain⟨b,a,e,hb,c⟩:=h d;exact⟨b,a,e,by omega,c⟩
theorem Rd.below(h:Rd w B A xs)(hb:Below B w w'):Rd w' B A xs:=h.keep λ_ a=>hb.cell a
theorem Rd.up(h:Rd w B A xs)(hb:Below B w w')(hB:B<=B'):Rd w' B' A xs:=(h.below hb).more hB
theorem Rd.alloc(h:Rd w B A xs)(hB:B<=w.heap.size)(o:Obj):Rd (w.alloc o) B A xs:=h.keep λp hp=>kzk w o p (by omega)
theorem Rd.set_(h:Rd w B A xs)(hB:B<=p.block)(u:Value):Rd (w.setCell p u) B A xs:=
 h.keep λq hq=>kj2 w p q u (λe=>by subst e;omega)
theorem Rd.drop_(h:Rd w B A xs)(k:Nat):Rd w B (A.map (·.add k)) (xs.drop k):=λm=>by
 have d:k<xs.length:=by
  rcases kq6 k xs.length with f|f
  .exact f
  exact absurd (List.drop_eq_nil_of_le f) m
 obtain⟨b,c,rfl,g,l⟩:=h (by intro e;subst e;simp at d);refine⟨b,c+k,?_,g,λj i=>?_⟩
 .simp only[kzy,Addr.add];split<;>simp_all
 have a:k+j<xs.length:=by simp at i;omega
 rw[kkj,kj7];exact l _ a
theorem Rd.take_(h:Rd w B A xs)(k:Nat):Rd w B A (xs.take k):=λg=>by obtain⟨b,a,rfl,c,f⟩:=h (by intro e;subst e;simp at g);exact⟨b,a,rfl,c,λj d=>by rw[kkk];exact f j (by simp at d;omega)⟩
theorem Rd.of_own{base size:Nat}{c:Nat}(h:w.ownsRow base e size (.slice A n c) n xs):Rd w w.heap.size A xs:=λl=>by
 have k:0<n:=by
  rcases kx7 n with b|b
  .have:=h.1;subst b;simp at this;exact absurd this l
  exact b
 obtain⟨g,cap,i,_,a⟩:=h.form k;have f:A=some ⟨g,0,none⟩:=by injection i
 subst f;refine⟨g,0,rfl,a,λj d=>?_⟩;have:=h.cells (g:=g) rfl j xs[j] (kql d);have e:(⟨g,0,none⟩:Addr).add j=⟨g,0+j,none⟩:=by unfold Addr.add;split<;>simp_all
 rwa [e] at this
end
theorem cw(f:α->List Value)(sz:Nat)(hf:∀x,(f x).length=sz)(l:List α):(l.flatMap f).length=l.length*sz:=by
 induction l with
 | nil=>simp
 | cons x l ih=>rw[kzx,kqu,hf,ih,kq0,kjg];omega
theorem iN(f:α->List Value)(sz:Nat)(hf:∀x,(f x).length=sz)(l:List α)(k j:Nat)(hk:k<l.length)(hj:j<sz):
 (l.flatMap f)[k*sz+j]? = (f l[k])[j]?:=by
 induction l generalizing k with
 | nil=>simp at hk
 | cons x l ih =>
  rw[kzx];cases k with
  | zero=>rw[kkq (by rw[hf];omega)];simp
  | succ k =>
   rw[kxi (by rw[hf,kjg];omega),hf];have:(k+1)*sz+j-sz=k*sz+j:=by rw[kjg];omega
   rw[this,ih k (by simpa using hk)];simp
theorem Rd.at_flat{f:α->List Value}{l:List α}(hf:∀x,(f x).length=sz)(h:Rd w B A (l.flatMap f))(hsz:0<sz)(hk:k<l.length):
 ∃b a,A=some ⟨b,a,none⟩/\b<B/\∀j,j<sz->w.cell? ⟨b,a+k*sz+j,none⟩=(f l[k])[j]?:=by
 have g:=cw f sz hf l;have c:0<(l.flatMap f).length:=by rw[g];exact Nat.mul_pos (by omega) hsz
 obtain⟨b,a,rfl,m,o⟩:=h (by intro e;rw[e] at c;simp at c);refine⟨b,a,rfl,m,λj n=>?_⟩;have d:k*sz+j<(l.flatMap f).length:=by rw[g];have:(k+1)*sz<=l.length*sz:=kxu _ hk;rw[kjg] at this;omega
 have i:=o _ d;rw[<-kj7] at i;rw[i,<-iN f sz hf l k j hk n];exact (kql d).symm
structure En where
 a:Int
 v:Nat
 deriving DecidableEq,Inhabited
def En.cells (e:En):List Value:=[.int .i64 e.a,.int .u64 (e.v:Int)]
structure Bk where
 at_:Int
 size:Int
 kind:Int
 typ:Int
 mark:Bool
 next:Nat
 deriving DecidableEq,Inhabited
variable {b:Bk}{l:List Bk}
def Bk.cells (b:Bk):List Value:=[.int .i64 b.at_,.int .i64 b.size,.int .i64 b.kind,.int .i64 b.typ,.bool b.mark,.int .u64 (b.next:Int)]
def Bk.val (b:Bk):Value:=.agg #[.int .i64 b.at_,.int .i64 b.size,.int .i64 b.kind,.int .i64 b.typ,.bool b.mark,.int .u64 (b.next:Int)]
def cX (x:Int):List Value:=[.int .i64 x]
def ag (x:Nat):List Value:=[.int .u64 (x:Int)]
def RdE (w:World) (B:Nat) (A:Option Addr) (l:List En):Prop:=Rd w B A (l.flatMap En.cells)
def RdB (w:World) (B:Nat) (A:Option Addr) (l:List Bk):Prop:=Rd w B A (l.flatMap Bk.cells)
def RdI (w:World) (B:Nat) (A:Option Addr) (l:List Int):Prop:=Rd w B A (l.flatMap cX)
def RdW (w:World) (B:Nat) (A:Option Addr) (l:List Nat):Prop:=Rd w B A (l.flatMap ag)
theorem En.len(x:En):x.cells.length=2:=rfl
theorem Bk.len(x:Bk):x.cells.length=6:=rfl
theorem jx(x:Int):(cX x).length=1:=rfl
theorem bt(x:Nat):(ag x).length=1:=rfl
theorem RdE.at_{l:List En}(h:RdE w B A l)(hk:k<l.length):
 ∃b c,A=some ⟨b,c,none⟩/\b<B/\w.cell? ⟨b,c+k*2,none⟩=some (.int .i64 l[k].a)/\w.cell? ⟨b,c+k*2+1,none⟩=some (.int .u64 (l[k].v:Int)):=by obtain⟨b,c,e,f,d⟩:=Rd.at_flat En.len h (by omega) hk;exact⟨b,c,e,f,d 0 (by omega),d 1 (by omega)⟩
theorem RdB.at_(h:RdB w B A l)(hk:k<l.length):
 ∃b a,A=some ⟨b,a,none⟩/\b<B/\w.cell? ⟨b,a+k*6,none⟩=some (.int .i64 l[k].at_)/\w.cell? ⟨b,a+k*6+1,none⟩=some (.int .i64 l[k].size) /\
  w.cell? ⟨b,a+k*6+2,none⟩=some (.int .i64 l[k].kind)/\w.cell? ⟨b,a+k*6+3,none⟩=some (.int .i64 l[k].typ) /\
  w.cell? ⟨b,a+k*6+4,none⟩=some (.bool l[k].mark)/\w.cell? ⟨b,a+k*6+5,none⟩=some (.int .u64 (l[k].next:Int)):=by obtain⟨b,a,e,d,c⟩:=Rd.at_flat Bk.len h (by omega) hk;exact⟨b,a,e,d,c 0 (by omega),c 1 (by omega),c 2 (by omega),c 3 (by omega),c 4 (by omega),c 5 (by omega)⟩
theorem RdI.at_{l:List Int}(h:RdI w B A l)(hk:k<l.length):
 ∃b a,A=some ⟨b,a,none⟩/\b<B/\w.cell? ⟨b,a+k,none⟩=some (.int .i64 l[k]):=by obtain⟨b,a,e,c,d⟩:=Rd.at_flat jx h (by omega) hk;have:=d 0 (by omega);simp only[kxm,kz8] at this;exact⟨b,a,e,c,this⟩
theorem RdW.at_{l:List Nat}(h:RdW w B A l)(hk:k<l.length):
 ∃b a,A=some ⟨b,a,none⟩/\b<B/\w.cell? ⟨b,a+k,none⟩=some (.int .u64 (l[k]:Int)):=by obtain⟨b,a,e,c,d⟩:=Rd.at_flat bt h (by omega) hk;have:=d 0 (by omega);simp only[kxm,kz8] at this;exact⟨b,a,e,c,this⟩
theorem aS(h:B<=w.heap.size):B<=(w.alloc o).heap.size:=by rw[kqm];omega
theorem fp{u:Value}(h:B<=w.heap.size):B<=(w.setCell p u).heap.size:=by rw[kz6];exact h
theorem dj(h:B<=w.heap.size):B<=(w.drewN n).heap.size:=h
theorem aW{a:World}(h:Below B a w)(n:Nat):Below B a (w.drewN n):=⟨h.os,h.tape,h.output,h.size,h.block⟩
theorem iX{b:Nat}{f:Nat->Value}(h:w.rowIs b t n f)(k:Nat):(w.drewN k).rowIs b t n f:=h
theorem na{b:Nat}{f:Nat->Value}(h:w.rowIs b t n f)(hb:Below B w w')(hlt:b<B):w'.rowIs b t n f:=h.of_block (hb.block b hlt)
theorem GL{k:IntKind}{a b:Int}(h:a=b):Ending.returned (.int k a)=.returned (.int k b):=by rw[h]
theorem box_of{cs:Array Value}(hB:Below (w.heap.size+1) (w.alloc (.cells cs t)) w1):
 (∀i,w1.cell? ⟨w.heap.size,i,none⟩=cs[i]?)/\(∀i,w1.frozen? ⟨w.heap.size,i,none⟩=false)/\Below w.heap.size w w1/\w.heap.size<w1.heap.size:=by have a:w1.heap[w.heap.size]? = some (.cells cs t (0,0)):=(hB.block w.heap.size (by omega)).trans (heap_alloc_new w _);refine⟨λi=>cell_of_row w1 _ i cs t (0,0) a,λi=>by simp[World.frozen?,a],((kqk _ _).alloc (kqa _) _).trans (hB.mono (by omega)),?_⟩;have:=hB.size;simp at this;omega
def Bx (w:World) (g:Nat) (t:TypeId) (cs:Array Value):Prop:=w.heap[g]? = some (.cells cs t (0,0))
section
variable {w w':World} {g B:Nat} {t:TypeId} {cs:Array Value}
theorem Bx.lt(h:Bx w g t cs):g<w.heap.size:=by
 rcases kq6 g w.heap.size with b|a
 .exact b
 unfold Bx at h;rw[kje a] at h;cases h
theorem Bx.cell(h:Bx w g t cs)(i:Nat):w.cell? ⟨g,i,none⟩=cs[i]?:=cell_of_row w g i cs t (0,0) h
theorem Bx.frozen(h:Bx w g t cs)(i:Nat):w.frozen? ⟨g,i,none⟩=false:=by unfold Bx at h;simp[World.frozen?,h]
theorem Bx.new(w:World)(t:TypeId)(cs:Array Value):Bx (w.alloc (.cells cs t)) w.heap.size t cs:=heap_alloc_new w _
theorem Bx.alloc(h:Bx w g t cs)(o:Obj):Bx (w.alloc o) g t cs:=(Below.heap_alloc w o g h.lt).trans h
theorem Bx.far(h:Bx w g t cs)(hp:g≠p.block)(u:Value):Bx (w.setCell p u) g t cs:=(kkz w p u g hp).trans h
theorem Bx.up(h:Bx w g t cs)(hb:Below B w w')(hg:g<B):Bx w' g t cs:=(hb.block g hg).trans h
theorem Bx.set_(h:Bx w g t cs)(i:Nat)(u:Value):Bx (w.setCell ⟨g,i,none⟩ u) g t (cs.setIfInBounds i u):=by unfold Bx at h |-;simp[World.setCell,Array.getElem?_modify,h]
theorem Bx.of_new(hB:Below (w.heap.size+1) (w.alloc (.cells cs t)) w'):Bx w' w.heap.size t cs:=(Bx.new w t cs).up hB (by omega)
theorem Bx.c1(h:Bx w g t #[x]):w.cell? ⟨g,0,none⟩=some x/\w.frozen? ⟨g,0,none⟩=false/\g<w.heap.size:=⟨h.cell 0,h.frozen 0,h.lt⟩
theorem Bx.c2(h:Bx w g t #[x,y]):w.cell? ⟨g,0,none⟩=some x/\w.cell? ⟨g,1,none⟩=some y/\w.frozen? ⟨g,0,none⟩=false/\w.frozen? ⟨g,1,none⟩=false/\g<w.heap.size:=
 ⟨h.cell 0,h.cell 1,h.frozen 0,h.frozen 1,h.lt⟩
theorem Bx.c3{z:Value}(h:Bx w g t #[x,y,z]):w.cell? ⟨g,0,none⟩=some x/\w.cell? ⟨g,1,none⟩=some y/\w.cell? ⟨g,2,none⟩=some z /\
 w.frozen? ⟨g,0,none⟩=false/\w.frozen? ⟨g,1,none⟩=false/\w.frozen? ⟨g,2,none⟩=false/\g<w.heap.size:=
 ⟨h.cell 0,h.cell 1,h.cell 2,h.frozen 0,h.frozen 1,h.frozen 2,h.lt⟩
theorem Bx.c6{x0 x1 x2 x3 x4 x5:Value}(h:Bx w g t #[x0,x1,x2,x3,x4,x5]):w.cell? ⟨g,0,none⟩=some x0/\w.cell? ⟨g,1,none⟩=some x1/\w.cell? ⟨g,2,none⟩=some x2 /\
 w.cell? ⟨g,3,none⟩=some x3/\w.cell? ⟨g,4,none⟩=some x4/\w.cell? ⟨g,5,none⟩=some x5/\(∀i,w.frozen? ⟨g,i,none⟩=false)/\g<w.heap.size:=
 ⟨h.cell 0,h.cell 1,h.cell 2,h.cell 3,h.cell 4,h.cell 5,h.frozen,h.lt⟩
end
theorem aw(hB:Below (w.heap.size+1) (w.alloc o) w1):Below w.heap.size w w1:=((kqk _ _).alloc (kqa _) _).trans (hB.mono (by omega))
theorem cI(w:World)(cs:List Value)(t:TypeId):∀j u,cs[j]? = some u->(w.alloc (.cells cs.toArray t)).cell? ((⟨w.heap.size,0,none⟩:Addr).add j)=some u:=by
 intro j u a;have e:(⟨w.heap.size,0,none⟩:Addr).add j=⟨w.heap.size,j,none⟩:=by unfold Addr.add;split<;>simp_all
 rw[e,(Bx.new w t cs.toArray).cell j]
 simpa using a
theorem aE(hB:Below H w wr)(hH:H<=wr.heap.size)(hown:wr.ownsRow H e sz v n xs)(hg:(wr.alloc o).grownBy w1 v.ownBlock):Below H w w1:=
 (hB.alloc hH _).grown hg (aS hH) (λk a=>(hown.lt k a).1)
theorem cB(hB:Below H w wr)(hH:H<=wr.heap.size)(hown:wr.ownsRow H e sz v n xs)(hg:wr.grownBy w1 v.ownBlock):Below H w w1:=
 hB.grown hg hH (λk a=>(hown.lt k a).1)
theorem Bx.grown{cs:Array Value}{row:Option Nat}(h:Bx w g t cs)(hb:w.grownBy w' row)(hg:some g≠row):Bx w' g t cs:=(hb.block g h.lt hg).trans h
theorem bH(hown:w.ownsRow H e sz v n xs)(hg:g<H):some g≠v.ownBlock:=λh=>by have:=(hown.lt g h.symm).1;omega
theorem aO(hown:w.ownsRow H e sz v n xs):∃A c,v=.slice A n c:=by
 rcases hown.2 with⟨rfl,rfl⟩|⟨g,cap,cur,rfl,_⟩
 .exact ⟨none,0,rfl⟩
 exact⟨_,_,rfl⟩
theorem ai(h:w.ownsRow H e sz v n xs)(hb:Below B w w')(hB:w.heap.size<=B):w'.ownsRow H e sz v n xs:=by
 refine⟨h.1,?_⟩;rcases h.2 with j|⟨g,f,c,i,d,a,b⟩
 .exact .inl j
 exact .inr ⟨g,f,c,i,d,(hb.block g (by have:=(kjy.1 a).1;omega)).trans a,b⟩
theorem cq(f:α->List Value)(l:List α)(x:α):(l++[x]).flatMap f=l.flatMap f++f x:=by simp
def En.ok (e:En):Prop:=-9223372036854775808<=e.a/\e.a<=9223372036854775807/\e.v<18446744073709551616
structure Ch where
 A:Option Addr
 c:Nat
 l:List En
 deriving Inhabited
def Ch.cells (x:Ch):List Value:=[.slice x.A x.l.length x.c]
def RdC (w:World) (B:Nat) (A:Option Addr) (l:List Ch):Prop:=Rd w B A (l.flatMap Ch.cells)
theorem Ch.len(x:Ch):x.cells.length=1:=rfl
theorem RdC.at_{l:List Ch}(h:RdC w B A l)(hk:k<l.length):
 ∃b a,A=some ⟨b,a,none⟩/\b<B/\w.cell? ⟨b,a+k,none⟩=some (.slice l[k].A l[k].l.length l[k].c):=by obtain⟨b,a,e,d,f⟩:=Rd.at_flat Ch.len h (by omega) hk;have:=f 0 (by omega);simp only[kxm,kz8] at this;exact⟨b,a,e,d,this⟩
def au (l:List En):List Int:=l.map En.a
theorem aT(l:List En):(au l).length=l.length:=by simp[au]
theorem dY(l:List En)(k:Nat)(h:k<l.length):(au l)[k]?.getD 0=l[k].a:=by simp[au,h]
theorem ao{M:Nat}(h:w.ownsRow M e sz v n xs)(hH:H<=M):w.ownsRow H e sz v n xs:=by
 refine⟨h.1,?_⟩;rcases h.2 with f|⟨g,c,b,d,hb1,a⟩
 .exact .inl f
 exact .inr ⟨g,c,b,d,by omega,a⟩
theorem fO{H':Nat}{e':TypeId}{sz' n':Nat}{v':Value}{xs':List Value}(h:w.ownsRow H e sz v n xs)(h':w.ownsRow H' e' sz' v' n' xs')(hne:e≠e'):v.ownBlock=none\/v.ownBlock≠v'.ownBlock:=by
 rcases h.2 with⟨rfl,_⟩|⟨g,cap,cur,rfl,_,b,_⟩
 .exact .inl rfl
 right;rcases h'.2 with⟨rfl,_⟩|⟨g',cap',cur',rfl,_,a,_⟩
 .simp[Value.ownBlock]
 simp only[Value.ownBlock,ne_eq,Option.some.injEq];rintro rfl;rw[b] at a;simp only[Option.some.injEq,Obj.cells.injEq] at a;exact hne a.2.1
theorem l6(f:α->List Value)(hf:∀x,(f x).length=1)(l:List α)(n:Nat):(l.take n).flatMap f=(l.flatMap f).take n:=by
 induction l generalizing n with
 | nil=>simp
 | cons x l ih =>
  have a:=hf x
  match hfx:f x,a with
  | [u],_ =>
   cases n with
   | zero=>simp
   | succ n=>simp[List.flatMap_cons,hfx,ih]
theorem pJ(f:α->List Value)(hf:∀x,(f x).length=1)(l:List α)(n:Nat):(l.drop n).flatMap f=(l.flatMap f).drop n:=by
 induction l generalizing n with
 | nil=>simp
 | cons x l ih =>
  have a:=hf x
  match hfx:f x,a with
  | [u],_ =>
   cases n with
   | zero=>simp
   | succ n=>simp[List.flatMap_cons,hfx,ih]
def iu (H:Nat) (err:Int) (out:List En) (e:Ending) (w':World):Prop:=∃A c,e=.returned (.tuple #[.slice A out.length c,.int .i64 err])/\w'.ownsRow H 89 2 (.slice A out.length c) out.length (out.flatMap En.cells)
theorem bQ{err r:Int}{out:List En}(h1:err=r)(h2:out=[]):iu H err out (.returned (.tuple #[.slice none 0 0,.int .i64 r])) w':=by subst h1 h2;exact⟨none,0,rfl,kza _ _ _ _⟩
def gk (l:List Bk) (k:Nat):Bk:=l[k]?.getD default
theorem bP(l:List Bk)(k:Nat)(h:k<l.length):gk l k=l[k]:=by simp[gk,h]
def Dr (b:Bk):Bool:=(b.kind==1||b.kind==2)&&((decide (2<=b.size)&&(decide (b.size<=2048)&&b.size%2==0))&&(decide (128<=b.at_)&&(b.at_%2==0&&decide (b.at_<=2048-b.size))))
def dR (l:List Bk):Nat->Int
 | 0=>128
 | k+1=>(gk l k).at_+(gk l k).size
def db (l:List Bk):Nat->Bool
 | 0=>true
 | k+1=>db l k&&(Dr (gk l k)&&(decide (k=0)||(gk l k).at_==dR l k))
def CQ (l:List Bk):Bool:=decide (l.length<=1024)&&db l l.length
def cn (l:List Bk):Int:=if CQ l then 0 else 8
theorem fq(h:db l n=true)(hk:k<=n):db l k=true:=by
 induction n with
 | zero =>
  have:k=0:=by omega
  subst this;exact h
 | succ n ih =>
  rcases kq6 k (n+1) with a|a
  .simp only[db,kqt] at h;exact ih h.1 (by omega)
  have:k=n+1:=by omega
  subst this;exact h
theorem dV(h:db l n=true)(hk:k<n):Dr (gk l k)=true/\(k=0\/(gk l k).at_=dR l k):=by have:=fq h (show k+1<=n from hk);simp only[db,kqt,kxy,kzc,kqw] at this;exact this.2
theorem tu(h:1024<l.length):cn l=8:=by
 have:¬ l.length<=1024:=by omega
 simp[cn,CQ,this]
theorem wi(h:db l k=false)(hk:k<=l.length):cn l=8:=by
 have:db l l.length=false:=by
  cases a:db l l.length with
  | false=>rfl
  | true=>rw[fq a hk] at h;cases h
 simp[cn,CQ,this]
theorem sM(h:l.length<=1024)(hk:db l l.length=true):cn l=0:=by simp[cn,CQ,h,hk]
theorem dy(h:cn l=0):l.length<=1024/\db l l.length=true:=by
 unfold cn CQ at h;split at h
 .rename_i h1
  simpa using h1
 simp at h
theorem yr(l:List Bk):cn l=0\/cn l=8:=by unfold cn;split<;>simp
theorem eH(b:Bk):Dr b=true↔(b.kind=1\/b.kind=2)/\2<=b.size/\b.size<=2048/\b.size%2=0/\128<=b.at_/\b.at_%2=0/\b.at_<=2048-b.size:=by
 simp only[Dr,kqt,kxy,kqw,kzc];constructor
 .rintro ⟨h,⟨c,f,g⟩,d,e,a⟩;exact⟨h,c,f,g,d,e,a⟩
 rintro ⟨h,c,f,g,d,e,a⟩;exact⟨h,⟨c,f,g⟩,d,e,a⟩
theorem Dm(h:Dr (gk l k)=false):db l (k+1)=false:=by simp[db,h]
theorem yy(h0:k≠0)(h:(gk l k).at_≠dR l k):db l (k+1)=false:=by
 have:((gk l k).at_==dR l k)=false:=by rw[kqi];exact h
 simp[db,this,h0]
theorem pD(hp:db l k=true)(h:Dr (gk l k)=true)(hn:k=0\/(gk l k).at_=dR l k):db l (k+1)=true:=by
 rcases hn with a|a
 .subst a;simp[db,h]
 simp[db,hp,h,a]
theorem px(h:db l k=true):128<=dR l k/\dR l k<=2048:=by
 cases k with
 | zero=>simp[dR]
 | succ k =>obtain⟨a,_⟩:=dV h (kjz k);have:=(eH _).1 a;simp only[dR];omega
def a8 (b:Bk):Bool:=b.kind==1&&b.mark
def bv:List Bk->Int->List Int
 | [],_=>[]
 | b::l,s=>if a8 b then s::bv l (s+b.size) else 0::bv l s
def aP:List Bk->Int->Int
 | [],s=>s
 | b::l,s=>if a8 b then aP l (s+b.size) else aP l s
def gI:List Bk->Int
 | []=>0
 | b::l=>if a8 b then gI l else b.size+gI l
def oh (l:List Bk):Int:=if l.length=0 then 2048 else (gk l 0).at_
def eB (l:List Bk) (s:Int):Int:=if cn l=0 then (if s<128 then 2 else if oh l<s then 2 else if s%2=0 then 0 else 2) else 8
theorem dt(l:List Bk)(s:Int):(bv l s).length=l.length:=by
 induction l generalizing s with
 | nil=>rfl
 | cons b l ih=>simp only[bv];split<;>simp[ih]
theorem gP(a b:List Bk)(s:Int):aP (a++b) s=aP b (aP a s):=by
 induction a generalizing s with
 | nil=>rfl
 | cons x a ih=>simp only[kzm,aP];split<;>exact ih _
theorem js(a b:List Bk)(s:Int):bv (a++b) s=bv a s++bv b (aP a s):=by
 induction a generalizing s with
 | nil=>rfl
 | cons x a ih=>simp only[kzm,bv,aP];split<;>simp[ih]
theorem qz(a b:List Bk):gI (a++b)=gI a+gI b:=by
 induction a with
 | nil=>simp[gI]
 | cons x a ih=>simp only[kzm,gI];split<;>omega
theorem iz(h:k<l.length)(s:Int):aP (l.take (k+1)) s=if a8 l[k] then aP (l.take k) s+l[k].size else aP (l.take k) s:=by rw[kqp h,gP];rfl
theorem kT(h:k<l.length)(s:Int):bv (l.take (k+1)) s=bv (l.take k) s++[if a8 l[k] then aP (l.take k) s else 0]:=by rw[kqp h,js];simp only[bv];split<;>rfl
theorem tF(h:k<l.length):gI (l.take (k+1))=if a8 l[k] then gI (l.take k) else gI (l.take k)+l[k].size:=by rw[kqp h,qz];simp only[gI];split<;>omega
def oy (l:List Bk) (k:Nat):Int:=if k=0 then 0 else dR l k-(gk l 0).at_
theorem pK(h:db l k=true)(hk:k<=l.length)(s:Int):0<=aP (l.take k) s-s/\0<=gI (l.take k)/\(aP (l.take k) s-s)+gI (l.take k)=oy l k/\oy l k<=1920:=by
 induction k with
 | zero=>simp[aP,gI,oy]
 | succ k ih =>
  have a:k<l.length:=by omega
  obtain⟨i1,i2,i3,i4⟩:=ih (fq h (kz4 k)) (by omega);obtain⟨d,b⟩:=dV h (kjz k);have d:=(eH _).1 d;have hb0:=(eH _).1 (dV h (Nat.succ_pos k)).1;rw[iz a,tF a];have e:oy l (k+1)=oy l k+(gk l k).size:=by
   unfold oy;rw[if_neg (Nat.succ_ne_zero k),show dR l (k+1)=(gk l k).at_+(gk l k).size from rfl];by_cases c:k=0
   .subst c;rw[if_pos rfl];omega
   rw[if_neg c];rcases b with b|b
   .exact absurd b c
   omega
  have f:oy l (k+1)<=1920:=by unfold oy;rw[if_neg (Nat.succ_ne_zero k),show dR l (k+1)=(gk l k).at_+(gk l k).size from rfl];omega
  rw[e] at f |-;rw[<-bP l k a];split<;>omega
theorem As(h:cn l=0):oh l<=2048:=by
 unfold oh;split
 .omega
 have:=(eH _).1 (dV (dy h).2 (show 0<l.length by omega)).1;omega
theorem lv(h:cn l=0)(hk:k<=l.length)(hs:128<=s)(hm:s<=oh l):128<=aP (l.take k) s/\aP (l.take k) s<=2048:=by
 obtain⟨h1,b⟩:=dy h;have hmb:=As h;obtain⟨i1,i2,d,i4⟩:=pK (fq b hk) hk s;refine⟨by omega,?_⟩;by_cases a:k=0
 .subst a;simp[aP];omega
 have hn:=(px (fq b hk)).2;have c:l.length≠0:=by omega
 simp only[oy,a,if_false] at d;simp only[oh,c,if_false] at hm;omega
theorem Ah{xs:Int}(hx:gk l k=⟨xa,xs,xk,xt,xm,xn⟩)(hn:dR l k=nx)(h:¬ ((xk=1\/xk=2)/\2<=xs/\xs<=2048/\xs%2=0/\128<=xa/\xa%2=0/\xa<=2048-xs/\(k=0\/xa=nx))):db l (k+1)=false:=by
 by_cases b:Dr (gk l k)=true
 .have a:=(eH _).1 b;rw[hx] at a;dsimp only at a;refine yy (by omega) ?_;rw[hx,hn];dsimp only;omega
 exact Dm (by cases hq:Dr (gk l k)<;>simp_all)
theorem un{xs:Int}(hx:gk l k=⟨xa,xs,xk,xt,xm,xn⟩)(hn:dR l k=nx)(hp:db l k=true)(h:(xk=1\/xk=2)/\2<=xs/\xs<=2048/\xs%2=0/\128<=xa/\xa%2=0/\xa<=2048-xs/\(k=0\/xa=nx)):db l (k+1)=true:=by
 refine pD hp ((eH _).2 ?_) ?_
 .rw[hx];dsimp only;omega
 rw[hx,hn];dsimp only;omega
theorem Ht(h:cn l≠0):eB l s=cn l:=by
 rcases yr l with a|a
 .exact absurd a h
 simp[eB,a]
theorem GQ(h:cn l=0)(h2:s<128\/oh l<s\/s%2≠0):eB l s=2:=by
 unfold eB;rw[if_pos h];by_cases a:s<128
 .rw[if_pos a]
 rw[if_neg a];by_cases b:oh l<s
 .rw[if_pos b]
 rw[if_neg b,if_neg (by omega)]
theorem AG(h:cn l=0)(h2:128<=s/\s<=oh l/\s%2=0):eB l s=0:=by unfold eB;rw[if_pos h,if_neg (by omega),if_neg (by omega),if_pos h2.2.2]
theorem eQ(h:eB l s=0):cn l=0/\128<=s/\s<=oh l/\s%2=0:=by
 unfold eB at h;split at h
 .split at h
  .simp at h
  split at h
  .simp at h
  split at h
  .exact ⟨by assumption,by omega,by omega,by assumption⟩
  simp at h
 simp at h
theorem tz(h:cn l=0)(hm:s<=oh l)(hk:k<l.length):aP (l.take k) s<=(gk l k).at_:=by
 obtain⟨h1,b⟩:=dy h;obtain⟨i1,i2,e,i4⟩:=pK (fq b (kxn hk)) (kxn hk) s;have d:l.length≠0:=by omega
 simp only[oh,d,if_false] at hm;by_cases a:k=0
 .subst a;simp[aP];exact hm
 simp only[oy,a,if_false] at e;rcases (dV b hk).2 with c|c
 .exact absurd c a
 omega
theorem uc(hk:k<l.length):(bv l s)[k]? = some (if a8 (gk l k) then aP (l.take k) s else 0):=by
 have c:=kT hk s;have b:bv l s=bv (l.take (k+1)) s++bv (l.drop (k+1)) (aP (l.take (k+1)) s):=by rw[<-js,kxa]
 have a:(bv (l.take k) s).length=k:=by rw[dt,kq3];omega
 rw[b,c,kxs,kxi (by omega),a,bP l k hk];simp
def Gb (s b:Nat):Nat:=((s ^^^ b)*1099511628211)%18446744073709551616
def ja (w i:Nat):Nat:=w/256 ^ i%256
def Cg (s w:Nat):Nat->Nat
 | 0=>s
 | k+1=>Gb (Cg s w k) (ja w k)
def fnvW (s w:Nat):Nat:=Cg s w 8
def aY (s:Nat):List Nat->Nat
 | []=>s
 | w::l=>aY (fnvW s w) l
def ig (w:Nat):Nat:=fnvW 14695981039346656037 w
theorem rM(w i:Nat):ja w i<256:=kzz _ (by omega)
theorem Je(s b:Nat):Gb s b<18446744073709551616:=kzz _ (by omega)
theorem tf{s:Nat}(hs:s<18446744073709551616)(w k:Nat):Cg s w k<18446744073709551616:=by
 cases k with
 | zero=>exact hs
 | succ k=>exact Je _ _
theorem Hs{s:Nat}(hs:s<18446744073709551616)(w:Nat):fnvW s w<18446744073709551616:=tf hs w 8
theorem iE{s:Nat}(hs:s<18446744073709551616)(l:List Nat):aY s l<18446744073709551616:=by
 induction l generalizing s with
 | nil=>exact hs
 | cons w l ih=>exact ih (Hs hs w)
theorem oB(s:Nat)(a b:List Nat):aY s (a++b)=aY (aY s a) b:=by
 induction a generalizing s with
 | nil=>rfl
 | cons w a ih=>exact ih _
theorem mw{l:List Nat}(h:k<l.length)(s:Nat):aY s (l.take (k+1))=fnvW (aY s (l.take k)) l[k]:=by rw[kqp h,oB];rfl
theorem JC(s b:Nat)(hb:b<256):s-s%256+((s%256) ^^^ b)=s ^^^ b:=by
 have d:(s%256) ^^^ b<2 ^ 8:=Nat.xor_lt_two_pow (kzz _ (by omega)) hb;have c:s-s%256=2 ^ 8*(s/256):=by have:=kvo s 256;omega
 apply Nat.eq_of_testBit_eq;intro j;rw[c,Nat.testBit_two_pow_mul_add _ d,Nat.testBit_xor];split
 .rename_i hj;rw[Nat.testBit_xor,show (256:Nat)=2 ^ 8 from rfl,Nat.testBit_mod_two_pow];simp[hj]
 rename_i hj;have a:b.testBit j=false:=Nat.testBit_lt_two_pow (kjs hb (by
  have:2 ^ 8<=2 ^ j:=kja (by omega) (by omega)
  simpa using this))
 rw[Nat.testBit_xor,a,Bool.xor_false,show (256:Nat)=2 ^ 8 from rfl,<-Nat.shiftRight_eq_div_pow,Nat.testBit_shiftRight];congr 1;omega
def je (b:Bk):Bool:=(decide (2<=b.size)&&b.size%2==0)&&((b.kind==1&&(decide (0<=b.typ)&&(decide (b.typ<8)&&decide (b.size<=10))))||(b.kind==2&&(b.typ==0&&(!b.mark&&decide (b.size<=1920)))))
theorem bD(b:Bk):je b=true↔(2<=b.size/\b.size%2=0)/\(b.kind=1/\0<=b.typ/\b.typ<8/\b.size<=10\/b.kind=2/\b.typ=0/\b.mark=false/\b.size<=1920):=by simp only[je,kqt,kxy,kqw,kzc,kx4]
def ov (m:Bool):Nat:=if m then 1 else 0
def kD (b:Bk):Nat:=b.kind.toNat+ov b.mark*256+b.typ.toNat*512+b.size.toNat*65536
def cV (b:Bk):Nat:=kD b+ig (kD b)%4294967296*4294967296
def aq (w:Nat):Bk:=⟨0,(w/65536%65536:Nat),(w%256:Nat),(w/512%128:Nat),w/256%2==1,0⟩
def aD (w:Nat):Bool:=je (aq w)&&cV (aq w)==w
theorem CY(m:Bool):ov m<=1:=by cases m<;>simp[ov]
theorem tI(h:je b=true):b.kind.toNat<256/\b.typ.toNat<128/\b.size.toNat<65536/\0<=b.kind/\0<=b.typ/\0<=b.size/\b.size<=1920:=by have:=(bD b).1 h;omega
theorem uH(h:je b=true):kD b<4294967296:=by obtain⟨h1,h2,h3,-⟩:=tI h;have:=CY b.mark;unfold kD;omega
theorem qn(h:je b=true):cV b<18446744073709551616:=by have h1:=uH h;have h2:ig (kD b)%4294967296<4294967296:=kzz _ (by omega);unfold cV;omega
theorem mI(h:je b=true):aq (cV b)=⟨0,b.size,b.kind,b.typ,b.mark,0⟩:=by
 obtain⟨h1,h2,h3,h4,h5,h6,h7⟩:=tI h;have hm:=CY b.mark;unfold aq cV;generalize ig (kD b)%4294967296=t;have hl:kD b=b.kind.toNat+ov b.mark*256+b.typ.toNat*512+b.size.toNat*65536:=rfl;generalize kD b=q at *;generalize a:ov b.mark=m at *;have f:(q+t*4294967296)/65536%65536=b.size.toNat:=by omega
 have c:(q+t*4294967296)%256=b.kind.toNat:=by omega
 have d:(q+t*4294967296)/512%128=b.typ.toNat:=by omega
 have e:(q+t*4294967296)/256%2=m:=by omega
 rw[f,c,d,e];congr 1
 .omega
 .omega
 .omega
 rw[<-a];cases b.mark<;>simp[ov]
theorem xV{a:Bk}(h1:a.size=b.size)(h2:a.kind=b.kind)(h3:a.typ=b.typ)(h4:a.mark=b.mark):cV a=cV b/\je a=je b:=by unfold cV kD je;rw[h1,h2,h3,h4];exact⟨rfl,rfl⟩
theorem pB(h:je b=true):aD (cV b)=true:=by unfold aD;rw[mI h];have:=xV (a:=⟨0,b.size,b.kind,b.typ,b.mark,0⟩) (b:=b) rfl rfl rfl rfl;rw[this.1,this.2,h];simp
def wd (ws:List Nat) (i:Nat):Nat:=ws[i]?.getD 0
def bkAt (ws:List Nat) (i:Nat):Bk:={ aq (wd ws i) with at_:=(i:Nat),next:=wd ws (i+1) }
def stands (ws:List Nat) (i:Nat):Bool:=aD (wd ws i)&&decide ((aq (wd ws i)).size<=(ws.length:Int)-i)
def szAt (ws:List Nat) (i:Nat):Nat:=wd ws i/65536%65536
def nZ (ws:List Nat):Nat->Nat->Option (List Bk)
 | 0,i=>if ws.length<=i then some [] else none
 | f+1,i=>if ws.length<=i then some [] else if stands ws i then (nZ ws f (i+szAt ws i)).map (bkAt ws i :: ·) else none
def blocks (ws:List Nat) (i:Nat):Option (List Bk):=nZ ws ws.length i
theorem aF(h:stands ws i=true):2<=szAt ws i/\szAt ws i%2=0/\i+szAt ws i<=ws.length:=by unfold stands aD at h;simp only[kqt,kzc] at h;obtain⟨⟨c,_⟩,b⟩:=h;have a:=(bD _).1 c;simp only[aq] at b a;unfold szAt;omega
theorem pw{f:Nat}(h:ws.length-i<=f):∀ {g:Nat},ws.length-i<=g->nZ ws f i=nZ ws g i:=by
 induction f generalizing i with
 | zero =>
  intro g _;cases g with
  | zero=>rfl
  | succ g=>simp only[nZ];rw[if_pos (by omega),if_pos (by omega)]
 | succ f ih =>
  intro g hg;cases g with
  | zero=>simp only[nZ];rw[if_pos (by omega),if_pos (by omega)]
  | succ g =>
   simp only[nZ];split
   .rfl
   split
   .rename_i hs;have:=aF hs;rw[ih (i:=i+szAt ws i) (by omega) (g:=g) (by omega)]
   rfl
theorem aH(h:ws.length<=i):blocks ws i=some []:=by
 unfold blocks;cases a:ws.length with
 | zero=>simp[nZ,a]
 | succ n=>rw[nZ,if_pos (by omega)]
theorem aR(h:i<ws.length)(hs:stands ws i=true):blocks ws i=(blocks ws (i+szAt ws i)).map (bkAt ws i :: ·):=by have hsz:=aF hs;unfold blocks;rw[pw (f:=ws.length) (i:=i) (by omega) (g:=ws.length+1) (by omega),nZ,if_neg (by omega),if_pos hs]
theorem di(h:i<ws.length)(hs:stands ws i=false):blocks ws i=none:=by unfold blocks;rw[pw (f:=ws.length) (i:=i) (by omega) (g:=ws.length+1) (by omega),nZ,if_neg (by omega),if_neg (by rw[hs];exact Bool.false_ne_true)]
def dB (a:Nat):List Nat:=(List.range (a%256)).map λi=>a/4 ^ (i+4)%4
def mV:List Nat->Nat->Nat
 | [],_=>0
 | k::l,j=>k*4 ^ j+mV l (j+1)
def iL (l:List Nat):Nat:=l.length+mV l 4
def dN (l:List Nat):Bool:=l.all λk=>decide (1<=k)&&decide (k<=3)
def da (l:List Nat):Int:=if 8<l.length then 4 else if dN l=true then 0 else 8
def bi (n:Nat):Nat:=2+(n+1)/2*2
def cr (a b:Nat):Bool:=(decide (a%256<=8)&&dN (dB a))&&(iL (dB a)==a&&ig a==b)
theorem eZ(a:Nat):(dB a).length=a%256:=by simp[dB]
theorem qw(a i:Nat)(h:i<a%256):(dB a)[i]? = some (a/4 ^ (i+4)%4):=by simp[dB,h]
theorem og(a b:List Nat)(j:Nat):mV (a++b) j=mV a j+mV b (j+a.length):=by
 induction a generalizing j with
 | nil=>simp[mV]
 | cons k a ih=>simp only[kzm,mV,ih,kq0];rw[show j+1+a.length=j+(a.length+1) by omega];omega
theorem tX(l:List Nat)(j:Nat)(h:∀k∈l,k<=3):mV l j+4 ^ j<=4 ^ (j+l.length):=by
 induction l generalizing j with
 | nil=>simp[mV]
 | cons k l ih =>have c:=ih (j+1) (λk a=>h k (by simp[a]));have b:=h k (by simp);simp only[mV,kq0];rw[show j+(l.length+1)=j+1+l.length by omega];have h3:k*4 ^ j<=3*4 ^ j:=kxu _ b;rw[kjm] at c;omega
theorem cQ(l:List Nat):dN l=true↔∀k∈l,1<=k/\k<=3:=by simp[dN]
theorem Ct{l:List Nat}(hk:k<l.length)(h:l[k]<1\/3<l[k]):dN l=false:=by
 cases a:dN l with
 | false=>rfl
 | true=>have:=(cQ l).1 a l[k] (kqq hk);omega
theorem tJ{l:List Nat}(h:8<l.length):da l=4:=by simp[da,h]
theorem lE{l:List Nat}(h:l.length<=8)(hk:dN l=false):da l=8:=by
 have:¬ 8<l.length:=by omega
 simp[da,this,hk]
theorem jn{l:List Nat}(h:l.length<=8)(hk:dN l=true):da l=0:=by
 have:¬ 8<l.length:=by omega
 simp[da,this,hk]
theorem kb{l:List Nat}(h:da l=0):l.length<=8/\dN l=true:=by
 unfold da at h;split at h
 .simp at h
 split at h
 .exact ⟨by omega,by assumption⟩
 simp at h
theorem BS{l:List Nat}(h:l.length<=8)(hk:dN l=true):iL l<16777216:=by
 have h1:=tX l 4 (λk a=>((cQ l).1 hk k a).2);have h2:4 ^ (4+l.length)<=4 ^ 12:=kja (by omega) (by omega);have h3:(4:Nat) ^ 12=16777216:=by decide
 have h4:(4:Nat) ^ 4=256:=by decide
 unfold iL;omega
def tyA (b:Bk):Nat:=96+2*b.typ.toNat
def cZ (ws:List Nat) (b:Bk):Bool:=cr (wd ws (tyA b)) (wd ws (tyA b+1))&&b.size==((bi (wd ws (tyA b)%256):Nat):Int)
def dK (ws:List Nat) (b:Bk):Bool:=b.kind != 1||cZ ws b
def ci (ws:List Nat):List Bk->Int->Bool
 | [],_=>true
 | b::l,s=>dK ws b&&(if a8 b then ((b.next:Int)==s)&&ci ws l (s+b.size) else ci ws l s)
def aB:List Bk->Int->List (Int × Int)
 | [],_=>[]
 | b::l,s=>if a8 b then (b.at_,s)::aB l (s+b.size) else aB l s
theorem mq(ws:List Nat)(a b:List Bk)(s:Int):ci ws (a++b) s=(ci ws a s&&ci ws b (aP a s)):=by
 induction a generalizing s with
 | nil=>simp[ci,aP]
 | cons x a ih =>
  simp only[kzm,ci,aP];split
  .rw[ih];simp only[Bool.and_assoc]
  rw[ih];simp only[Bool.and_assoc]
theorem fG(a b:List Bk)(s:Int):aB (a++b) s=aB a s++aB b (aP a s):=by
 induction a generalizing s with
 | nil=>rfl
 | cons x a ih=>simp only[kzm,aB,aP];split<;>simp[ih]
theorem po(h:k<l.length)(s:Int):ci ws (l.take (k+1)) s=(ci ws (l.take k) s&&(dK ws l[k]&&(!a8 l[k]||(l[k].next:Int)==aP (l.take k) s))):=by rw[kqp h,mq];simp only[ci];cases a8 l[k]<;>simp
theorem wz(h:k<l.length)(s:Int):aB (l.take (k+1)) s=aB (l.take k) s++(if a8 l[k] then [(l[k].at_,aP (l.take k) s)] else []):=by rw[kqp h,fG];simp only[aB]
theorem o0(h:ci ws l s=true)(k:Nat):ci ws (l.take k) s=true:=by rw[<-kxa k l,mq,kqt] at h;exact h.1
theorem rL(h:ci ws (l.take k) s=false):ci ws l s=false:=by
 cases a:ci ws l s with
 | false=>rfl
 | true=>rw[o0 a k] at h;cases h
theorem FE(h:ci ws l s=true)(hk:k<l.length):dK ws l[k]=true/\(a8 l[k]=true->(l[k].next:Int)=aP (l.take k) s):=by
 have b:=o0 h (k+1);rw[po hk] at b;simp only[kqt,kxy,kx4,kqw] at b;exact⟨b.2.1,λc=>by
  rcases b.2.2 with a|a
  .rw[c] at a;cases a
  exact a⟩
theorem d7(P:Nat->List Bk->Prop)(h0:∀i,ws.length<=i->P i [])(h1:∀i l,i<ws.length->stands ws i=true->blocks ws (i+szAt ws i)=some l->P (i+szAt ws i) l->P i (bkAt ws i::l)):
 ∀i l,blocks ws i=some l->P i l:=by
 have c:∀n i l,ws.length-i<=n->blocks ws i=some l->P i l:=by
  intro n
  induction n with
  | zero =>intro i l e h;rw[aH (by omega)] at h;cases h;exact h0 i (by omega)
  | succ n ih =>
   intro i l e h;by_cases d:ws.length<=i
   .rw[aH d] at h;cases h;exact h0 i d
   cases b:stands ws i with
   | false=>rw[di (by omega) b] at h;cases h
   | true =>
    have hsz:=aF b;rw[aR (by omega) b] at h;cases a:blocks ws (i+szAt ws i) with
    | none=>rw[a] at h;cases h
    | some l' =>rw[a] at h;simp only[kzy,Option.some.injEq] at h;subst h;exact h1 i l' (by omega) b a (ih _ _ (by omega) a)
 exact λi l h=>c _ i l (kqa _) h
theorem ab(ws:List Nat)(i:Nat):(bkAt ws i).at_=(i:Int):=rfl
theorem bq(ws:List Nat)(i:Nat):(bkAt ws i).size=((szAt ws i:Nat):Int):=rfl
theorem fP(h:stands ws i=true):je (aq (wd ws i))=true:=by unfold stands aD at h;simp only[kqt] at h;exact h.1.1
theorem iT(b:Bk)(l:List Bk)(k:Nat):gk (b::l) (k+1)=gk l k:=by simp[gk]
theorem nb(b:Bk)(l:List Bk):gk (b::l) 0=b:=rfl
theorem Di(hn:ws.length<=2048)(h:stands ws i=true)(h1:128<=i)(h2:i%2=0):Dr (bkAt ws i)=true:=by have h3:=(bD _).1 (fP h);have h4:=aF h;rw[eH];have a:(bkAt ws i).kind=(aq (wd ws i)).kind:=rfl;have e2:(aq (wd ws i)).size=((szAt ws i:Nat):Int):=rfl;rw[ab,bq,a];omega
theorem bK(hn:ws.length<=2048):∀i l,blocks ws i=some l->128<=i->i%2=0->i<=ws.length ->
 2*l.length+i<=ws.length/\∀k,k<l.length->Dr (gk l k)=true/\(k=0->(gk l k).at_=(i:Int))/\(0<k->(gk l k).at_=(gk l (k-1)).at_+(gk l (k-1)).size):=by
 refine d7 _ (λi _ _ _ _=>⟨by simp;omega,λk a=>by simp at a⟩) (λi l hi c hb n m g _=>?_);have b:=aF c;obtain⟨h3,j⟩:=n (by omega) (by omega) b.2.2;refine⟨by rw[kq0];omega,λk a=>?_⟩;cases k with
 | zero=>exact⟨Di hn c m g,λ_=>rfl,λh=>absurd h (by omega)⟩
 | succ k =>
  rw[kq0] at a;obtain⟨d,e,f⟩:=j k (by omega);rw[iT];refine⟨d,λh=>absurd h (by omega),λ_=>?_⟩;rw[Nat.add_sub_cancel];cases k with
  | zero=>rw[nb,e rfl,ab,bq];omega
  | succ k=>rw[iT];exact f (by omega)
theorem oQ(hn:ws.length<=2048)(h:blocks ws i=some l)(h1:128<=i)(h2:i%2=0)(h3:i<=ws.length):cn l=0:=by
 obtain⟨h4,e⟩:=bK hn i l h h1 h2 h3;refine sM (by omega) ?_;have a:∀k,k<=l.length->db l k=true:=by
  intro k
  induction k with
  | zero=>intro _;rfl
  | succ k ih =>
   intro hk;obtain⟨c,g2,d⟩:=e k (by omega);refine pD (ih (by omega)) c ?_;rcases kx7 k with b|b
   .exact .inl b
   right;obtain⟨m,rfl⟩:∃m,k=m+1:=⟨k-1,by omega⟩;exact d b
 exact a _ (kqa _)
theorem cC(h:blocks ws i=some l)(hi:i<ws.length):0<l.length/\gk l 0=bkAt ws i/\stands ws i=true/\blocks ws (i+szAt ws i)=some (l.drop 1):=by
 cases b:stands ws i with
 | false=>rw[di hi b] at h;cases h
 | true =>
  rw[aR hi b] at h;cases a:blocks ws (i+szAt ws i) with
  | none=>rw[a] at h;cases h
  | some l' =>rw[a] at h;simp only[kzy,Option.some.injEq] at h;subst h;exact⟨by simp,rfl,rfl,by simp⟩
theorem lq(hn:ws.length<=2048)(h:blocks ws i=some l)(h1:128<=i)(h2:i%2=0)(h3:i<=ws.length)(hs:128<=s)(hs2:s%2=0)(hs3:s<=(i:Int)):eB l s=0:=by
 refine AG (oQ hn h h1 h2 h3) ⟨hs,?_,hs2⟩;unfold oh;split
 .omega
 rename_i hl;have:=(bK hn i l h h1 h2 h3).2 0 (by omega);rw[this.2.1 rfl];exact hs3
theorem jH:∀ {l:List Bk} {s:Int} {p:Nat},p<(aB l s).length->∃k,∃h:k<l.length,a8 l[k]=true/\(aB l s)[p]? = some (l[k].at_,aP (l.take k) s)/\(aB (l.take k) s).length=p:=by
 intro l
 induction l with
 | nil=>intro s p h;simp[aB] at h
 | cons b l ih =>
  intro s p h;cases a:a8 b with
  | true =>
   simp only[aB,a,if_true] at h |-;cases p with
   | zero=>exact⟨0,by simp,a,by simp[aP],rfl⟩
   | succ p =>
    obtain⟨k,c,f,d,e⟩:=ih (s:=s+b.size) (p:=p) (by simpa using h);refine⟨k+1,by simpa using c,f,?_,?_⟩
    .simp only[kj8,d,kqd,kxo,aP,a,if_true]
    simp only[kxo,aB,a,if_true,kq0,e]
  | false =>
   simp only[aB,a,kzh,if_false] at h |-;obtain⟨k,c,f,d,e⟩:=ih (s:=s) (p:=p) h;refine⟨k+1,by simpa using c,f,?_,?_⟩
   .simp only[d,kqd,kxo,aP,a,kzh,if_false]
   simp only[kxo,aB,a,kzh,if_false,e]
theorem l9(ws:List Nat)(j v i:Nat):wd (ws.set j v) i=if j=i/\j<ws.length then v else wd ws i:=by
 unfold wd;by_cases h:j=i
 .subst h;by_cases a:j<ws.length
  .simp[a]
  simp[a]
 simp[h]
theorem iG(ws:List Nat)(v:Nat)(h:j≠i):wd (ws.set j v) i=wd ws i:=by rw[l9,if_neg (λa=>h a.1)]
def mY (j v:Nat) (b:Bk):Bk:=if b.at_+1=(j:Int) then { b with next:=v } else b
theorem lX(v:Nat)(h:j≠i):stands (ws.set j v) i=stands ws i/\szAt (ws.set j v) i=szAt ws i:=by unfold stands szAt;rw[iG ws v h,kq4];exact⟨rfl,rfl⟩
theorem uB{v:Nat}(h:j≠i)(hj:j<ws.length):bkAt (ws.set j v) i=mY j v (bkAt ws i):=by
 unfold bkAt mY;rw[iG ws v h,l9];by_cases e:j=i+1
 .rw[if_pos ⟨e,hj⟩,if_pos (by dsimp only;omega)]
 rw[if_neg (λa=>e a.1),if_neg (by dsimp only;omega)]
theorem xJ{v:Nat}(hj:j%2=1)(hl:j<ws.length):∀i,i%2=0->blocks (ws.set j v) i=(blocks ws i).map (List.map (mY j v)):=by
 have b:∀n i,ws.length-i<=n->i%2=0->blocks (ws.set j v) i=(blocks ws i).map (List.map (mY j v)):=by
  intro n
  induction n with
  | zero=>intro i e _;rw[aH (by rw[kq4];omega),aH (by omega)];rfl
  | succ n ih =>
   intro i e h2;by_cases hi:ws.length<=i
   .rw[aH (by rw[kq4];omega),aH (by omega)];rfl
   obtain⟨c,d⟩:=lX (ws:=ws) (j:=j) (i:=i) v (by omega);cases a:stands ws i with
   | false=>rw[di (by rw[kq4];omega) (by rw[c,a]),di (by omega) a];rfl
   | true =>have hsz:=aF a;rw[aR (by rw[kq4];omega) (by rw[c,a]),aR (by omega) a,d,ih _ (by omega) (by omega),uB (by omega) hl];cases blocks ws (i+szAt ws i)<;>rfl
 exact λi=>b _ i (kqa _)
theorem lK(h:cn l=0){m:Nat}(hk:k<l.length)(hm:m<k):(gk l m).at_<(gk l k).at_:=by
 obtain⟨_,a⟩:=dy h
 induction k with
 | zero=>omega
 | succ k ih =>
  have d:=dV a (show k+1<l.length from hk);have h4:=(eH _).1 (dV a (show k<l.length by omega)).1;have e:(gk l (k+1)).at_=(gk l k).at_+(gk l k).size:=by
   rcases d.2 with c|c
   .omega
   exact c
  rcases kq6 m k with b|b
  .have:=ih (by omega) b;omega
  have:m=k:=by omega
  subst this;omega
theorem xr(h:cn l=0){v:Nat}(hk:k<l.length)(hj:l[k].at_+1=(j:Int)):l.map (mY j v)=l.set k { l[k] with next:=v }:=by
 apply List.ext_getElem (by simp);intro i a h2;have a:i<l.length:=by simpa using a
 rw[List.getElem_map,List.getElem_set];unfold mY;by_cases e:k=i
 .subst e;rw[if_pos hj,if_pos rfl]
 rw[if_neg e];rw[if_neg ?_];intro h3;have e2:(gk l i).at_=(gk l k).at_:=by rw[bP l i a,bP l k hk];omega
 rcases Nat.lt_or_gt_of_ne e with b|b
 .have:=lK h a b;omega
 have:=lK h hk b;omega
theorem xp{ws':List Nat}(hf:∀b∈l,dK ws' b=dK ws b)(hf2:∀b v,b∈l->dK ws' { b with next:=v }=dK ws b):∀ {s:Int},ci ws l s=true->∀ {k:Nat} (e:k<l.length),a8 l[k]=true->∀v:Nat,
 ci ws' (l.set k { l[k] with next:=v }) s=((v:Int)==aP (l.take k) s)/\aB (l.set k { l[k] with next:=v }) s=aB l s:=by
 induction l with
 | nil=>intro s _ k e;simp at e
 | cons b l ih =>
  intro s h k e d v;have f:=hf b (by simp);have i:=hf2 b v (by simp);have g:∀(l:List Bk),(∀b∈l,dK ws' b=dK ws b)->∀s,ci ws' l s=ci ws l s:=by
   intro l d
   induction l with
   | nil=>intro s;rfl
   | cons c l ih2 =>intro s;simp only[ci];rw[d c (by simp),ih2 (λb a=>d b (by simp[a])),ih2 (λb a=>d b (by simp[a]))]
  cases k with
  | zero =>have d:a8 b=true:=d;have n:a8 { b with next:=v }=true:=d;simp only[ci,d,if_true,kqt] at h;simp only[kqg,kqe,ci,n,if_true,aB,d,List.take_zero,aP,i,h.1,kzq];rw[g l (λb a=>hf b (by simp[a])),h.2.2,Bool.and_true];exact⟨rfl,trivial⟩
  | succ k =>
   have e:k<l.length:=by simpa using e
   have d:a8 l[k]=true:=d;cases a:a8 b with
   | true =>simp only[ci,a,if_true,kqt] at h;obtain⟨j,m⟩:=ih (λb a=>hf b (by simp[a])) (λb v a=>hf2 b v (by simp[a])) h.2.2 e d v;simp only[kqf,kqd,ci,a,if_true,aB,kxo,aP,f,h.1,h.2.1,kzq,j,m];exact⟨trivial,trivial⟩
   | false =>simp only[ci,a,kzh,if_false,kqt] at h;obtain⟨j,m⟩:=ih (λb a=>hf b (by simp[a])) (λb v a=>hf2 b v (by simp[a])) h.2 e d v;simp only[kqf,kqd,ci,a,kzh,if_false,aB,kxo,aP,f,h.1,kzq,j,m];exact⟨trivial,trivial⟩
def fU (n:Nat) (f s:Int):Bool:=(f%2 != 0)||((s%2 != 0)||(decide (s<128)||(decide (f<s)||decide ((n:Int)<f))))
def um (n:Nat):Bool:=decide (256<=n)&&(decide (n<=2048)&&n%8==0)
theorem gQ(h:fU n f s=false):f%2=0/\s%2=0/\128<=s/\s<=f/\f<=(n:Int):=by simp only[fU,kzn,kqr,kqc] at h;omega
theorem lg(n:Nat)(f s:Int):fU n f s=true↔¬ (f%2=0/\s%2=0/\128<=s/\s<=f/\f<=(n:Int)):=by
 constructor
 .intro h h2;have:fU n f s=false:=by simp only[fU,kzn,kqr,kqc];omega
  rw[this] at h;cases h
 intro h;cases a:fU n f s with
 | true=>rfl
 | false=>exact absurd (gQ a) h
def lB (ws:List Nat) (f s:Int):Int:=match blocks ws f.toNat with
 | none=>50
 | some l=>if ci ws l s=true then 0 else 50
def bh (ws:List Nat) (f s:Int):Int:=if um ws.length=true then (if fU ws.length f s=true then 2 else lB ws f s) else 8
def iB (ws:List Nat) (f s:Int):List (Int × Int):=if bh ws f s=0 then (match blocks ws f.toNat with | none=>[] | some l=>aB l s) else []
theorem cj(h:bh ws f s=0):um ws.length=true/\fU ws.length f s=false/\∃l,blocks ws f.toNat=some l/\ci ws l s=true/\iB ws f s=aB l s:=by
 have b:=h;unfold bh at h;split at h
 .rename_i h1;split at h
  .simp at h
  rename_i h2;unfold lB at h;cases a:blocks ws f.toNat with
  | none=>rw[a] at h;simp at h
  | some l =>
   rw[a] at h;refine⟨h1,by simpa using h2,l,rfl,?_,?_⟩
   .dsimp only at h;split at h
    .assumption
    simp at h
   unfold iB;rw[if_pos b,a]
 simp at h
theorem iY(h1:um ws.length=true)(h2:fU ws.length f s=false)(h3:blocks ws f.toNat=some l):bh ws f s=if ci ws l s=true then 0 else 50:=by unfold bh lB;rw[if_pos h1,h2,h3];rfl
theorem mU(h:um n=true):256<=n/\n<=2048/\n%8=0:=by simp[um] at h;omega
theorem cp :∀i l,blocks ws i=some l->i%2=0->∀k (h:k<l.length),∃a,l[k]=bkAt ws a/\a%2=0/\i<=a/\a<ws.length/\stands ws a=true/\blocks ws a=some (l.drop k):=by
 refine d7 _ (λi _ _ k h=>by simp at h) (λi l c b e o g k h=>?_);have hsz:=aF b;cases k with
 | zero=>exact⟨i,rfl,g,kqa _,c,b,by rw[aR c b,e];rfl⟩
 | succ k =>obtain⟨a,m,n,h5,j,f,d⟩:=o (by omega) k (by simpa using h);exact⟨a,m,n,by omega,j,f,d⟩
theorem Gl{w:Nat}(h:je (aq w)=true)(hk:b.kind=(aq w).kind)(ht:b.typ=(aq w).typ)(h1:b.kind=1):tyA b+1<128:=by have:=(bD _).1 h;rw[<-hk,<-ht] at this;unfold tyA;omega
theorem EA{v:Nat}(hj:128<=j){a:Nat}(hs:stands ws a=true)(u:Nat):dK (ws.set j v) { bkAt ws a with next:=u }=dK ws (bkAt ws a):=by
 have f:=fP hs;unfold dK;show ((bkAt ws a).kind != 1||cZ (ws.set j v) { bkAt ws a with next:=u })=_;by_cases c:(bkAt ws a).kind=1
 .have h2:=Gl (b:=bkAt ws a) f rfl rfl c;have e:wd (ws.set j v) (tyA (bkAt ws a))=wd ws (tyA (bkAt ws a)):=iG ws v (by omega);have d:wd (ws.set j v) (tyA (bkAt ws a)+1)=wd ws (tyA (bkAt ws a)+1):=iG ws v (by omega);unfold cZ;show (_||(cr (wd (ws.set j v) (tyA (bkAt ws a))) (wd (ws.set j v) (tyA (bkAt ws a)+1))&&(bkAt ws a).size==((bi (wd (ws.set j v) (tyA (bkAt ws a))%256):Nat):Int)))=_;rw[e,d]
 have:((bkAt ws a).kind != 1)=true:=by rw[kqv];exact c
 rw[this,kkw,kkw]
theorem wh(h:bh ws f s=0){p:Nat}(hp:p<(iB ws f s).length):∃a t:Nat,(iB ws f s)[p]? = some ((a:Int),(t:Int))/\128<=a/\a+1<ws.length/\wd ws (a+1)=t/\t<=2048 /\
 ∀v,(v=t->bh (ws.set (a+1) v) f s=0)/\(v≠t->bh (ws.set (a+1) v) f s=50):=by
 obtain⟨E,H,l,y,G,M⟩:=cj h;obtain⟨a1,N,O,a4,a5⟩:=gQ H;have g:=mU E;rw[M] at hp |-;obtain⟨k,r,F,P,-⟩:=jH hp;obtain⟨a,e,b1,b2,b3,J,-⟩:=cp _ _ y (by omega) k r;have B:=lq (i:=f.toNat) g.2.1 y (by omega) (by omega) (by omega) (s:=s) O N (by omega);obtain⟨q,z,C,hs3⟩:=eQ B;have hbd:=lv q (kxn r) z C;have o:=(FE G r).2 F;have hsz:=aF J;have d:a+1<ws.length:=by omega
 have n:wd ws (a+1)=l[k].next:=by rw[e];rfl
 have x:l[k].at_=(a:Int):=by rw[e];rfl
 refine⟨a,l[k].next,by rw[P,x,o],by omega,d,n,by omega,λv=>?_⟩;have w:=xJ (ws:=ws) (j:=a+1) (v:=v) (by omega) d f.toNat (by omega);rw[y,kzy,xr q r (by rw[x];omega)] at w;have c:∀b∈l,∀u,dK (ws.set (a+1) v) { b with next:=u }=dK ws b:=by intro b g u;obtain⟨m,L,rfl⟩:=kqz g;obtain⟨a',I,-,-,-,A,-⟩:=cp _ _ y (by omega) m L;rw[I];exact EA (by omega) A u
 obtain⟨K,-⟩:=xp (ws:=ws) (ws':=ws.set (a+1) v) (λb g=>by have:=c b g b.next;exact this) (λb u g=>c b g u) G r F v;rw[iY (by rw[kq4];exact E) (by rw[kq4];exact H) w,K,<-o];constructor
 .intro D;subst D;simp
 intro D;have:((v:Int)==(l[k].next:Int))=false:=by rw[kqi];omega
 rw[this];simp
def eT:List Nat->Nat->List Nat->List Nat
 | ws,_,[]=>ws
 | ws,t,v::l=>eT (ws.set t v) (t+1) l
theorem lz(l:List Nat):∀(ws:List Nat) (t:Nat),(eT ws t l).length=ws.length:=by
 induction l with
 | nil=>intro ws t;rfl
 | cons v l ih=>intro ws t;simp only[eT,ih,kq4]
theorem rZ(l:List Nat):∀(ws:List Nat) (t i:Nat),t+l.length<=ws.length->wd (eT ws t l) i=if t<=i/\i<t+l.length then l[i-t]?.getD 0 else wd ws i:=by
 induction l with
 | nil=>intro ws t i _;simp only[eT,kxb];rw[if_neg (by omega)]
 | cons v l ih =>
  intro ws t i c;rw[kq0] at c;simp only[eT,kq0];rw[ih (ws.set t v) (t+1) i (by rw[kq4];omega),l9];by_cases b:t=i
  .subst b;rw[if_neg (by omega),if_pos ⟨rfl,by omega⟩,if_pos (by omega)];simp
  by_cases a:t+1<=i/\i<t+1+l.length
  .rw[if_pos a,if_pos (by omega)];obtain⟨m,rfl⟩:∃m,i=t+1+m:=⟨i-(t+1),by omega⟩;rw[show t+1+m-(t+1)=m by omega,show t+1+m-t=m+1 by omega];simp
  rw[if_neg a,if_neg (λh=>b h.1),if_neg (by omega)]
theorem dX{xs:List Nat}(hn:xs.length=ws.length):∀i,(∀j,i<=j->wd xs j=wd ws j)->blocks xs i=blocks ws i:=by
 have c:∀n i,ws.length-i<=n->(∀j,i<=j->wd xs j=wd ws j)->blocks xs i=blocks ws i:=by
  intro n
  induction n with
  | zero=>intro i h _;rw[aH (by omega),aH (by omega)]
  | succ n ih =>
   intro i h b;by_cases hi:ws.length<=i
   .rw[aH (by omega),aH (by omega)]
   have d:stands xs i=stands ws i:=by unfold stands;rw[b i (kqa _),hn]
   have e:szAt xs i=szAt ws i:=by unfold szAt;rw[b i (kqa _)]
   have f:bkAt xs i=bkAt ws i:=by unfold bkAt;rw[b i (kqa _),b (i+1) (by omega)]
   cases a:stands ws i with
   | false=>rw[di (by omega) (by rw[d,a]),di (by omega) a]
   | true =>have hsz:=aF a;rw[aR (by omega) (by rw[d,a]),aR (by omega) a,e,f,ih _ (by omega) (λj hj=>b j (by omega))]
 exact λi=>c _ i (kqa _)
theorem tO{xs:List Nat}(hw:∀j,j<128->wd xs j=wd ws j):∀ {l:List Bk},(∀b∈l,b.kind=1->tyA b+1<128)->∀s,ci xs l s=ci ws l s:=by
 intro l
 induction l with
 | nil=>intro _ s;rfl
 | cons b l ih =>
  intro h s;have e:dK xs b=dK ws b:=by
   unfold dK;by_cases c:b.kind=1
   .have h2:=h b (by simp) c;unfold cZ;rw[hw _ (by omega),hw _ (by omega)]
   have:(b.kind != 1)=true:=by rw[kqv];exact c
   rw[this,kkw,kkw]
  simp only[ci,e];rw[ih (λb a=>h b (by simp[a])),ih (λb a=>h b (by simp[a]))]
theorem jy(h:blocks ws i=some l)(h2:i%2=0):∀b∈l,b.kind=1->tyA b+1<128:=by intro b d c;obtain⟨m,f,rfl⟩:=kqz d;obtain⟨a,e,-,-,-,g,-⟩:=cp _ _ h h2 m f;rw[e] at c |-;exact Gl (fP g) rfl rfl c
def dG (ws:List Nat) (f t:Int):Int:=if bh ws f t=0 then (match blocks ws f.toNat with | some (b::_)=>if b.mark then 0 else 6 | _=>6) else bh ws f t
def dW (ws:List Nat) (f:Nat):List Nat:=(List.range (szAt ws f)).map λi=>if i=0 then cV { aq (wd ws f) with mark:=false } else if i=1 then 0 else wd ws (f+i)
theorem yk{t:Int}(h:dG ws f t=0):bh ws f t=0/\∃a:Nat,f=(a:Int)/\a%2=0/\128<=a/\a<ws.length/\stands ws a=true/\a8 (bkAt ws a)=true/\∃l,blocks ws a=some (bkAt ws a::l)/\blocks ws (a+szAt ws a)=some l:=by
 unfold dG at h;split at h
 .rename_i h0;refine⟨h0,?_⟩;obtain⟨h1,o,l,d,h4,h5⟩:=cj h0;obtain⟨a1,a2,a3,a4,a5⟩:=gQ o;rw[d] at h;cases l with
  | nil=>simp at h
  | cons b l =>
   dsimp only at h;split at h
   .rename_i hm;refine⟨f.toNat,by omega,by omega,by omega,?_,?_⟩
    .rcases kq6 f.toNat ws.length with c|c
     .exact c
     rw[aH c] at d;simp at d
    have j:f.toNat<ws.length:=by
     rcases kq6 f.toNat ws.length with c|c
     .exact c
     rw[aH c] at d;simp at d
    obtain⟨_,g,k,p⟩:=cC d j;have g:b=bkAt ws f.toNat:=g;subst g;refine⟨k,?_,l,d,by simpa using p⟩;have n:=(bD _).1 (fP k);have i:(aq (wd ws f.toNat)).mark=true:=hm;have m:(bkAt ws f.toNat).kind=1:=by
     rcases n.2 with e|e
     .exact e.1
     rw[i] at e;exact absurd e.2.2.1 (by simp)
    simp[a8,m];exact hm
   simp at h
 rename_i h0;exact absurd h h0
theorem f9(ws:List Nat)(f:Nat):(dW ws f).length=szAt ws f:=by simp[dW]
theorem kr(ws:List Nat)(f i:Nat)(h:i<szAt ws f):(dW ws f)[i]? = some (if i=0 then cV { aq (wd ws f) with mark:=false } else if i=1 then 0 else wd ws (f+i)):=by simp[dW,h]
theorem zQ{w:Nat}(h:je (aq w)=true)(hk:(aq w).kind=1):je { aq w with mark:=false }=true:=by
 have:=(bD _).1 h;rw[bD];show _/\((aq w).kind=1/\_\/_);rcases this.2 with a|a
 .exact ⟨this.1,.inl a⟩
 rw[hk] at a;exact absurd a.1 (by omega)
theorem fB{t:Int}(h:dG ws f t=0):∃a u n:Nat,f=(a:Int)/\t=(u:Int)/\n=szAt ws a/\2<=n/\n<=10/\128<=u/\u<=a/\a+n<=ws.length/\stands ws a=true/\a8 (bkAt ws a)=true /\
 (∃l,blocks ws a=some (bkAt ws a::l)/\blocks ws (a+n)=some l/\blocks (eT ws u (dW ws a)) (a+n)=some l/\bh (eT ws u (dW ws a)) ((a+n:Nat):Int) ((u+n:Nat):Int)=0 /\
  iB ws f t=((a:Int),(u:Int))::iB (eT ws u (dW ws a)) ((a+n:Nat):Int) ((u+n:Nat):Int)) /\
 wd (eT ws u (dW ws a)) u=cV { aq (wd ws a) with mark:=false }/\je { aq (wd ws a) with mark:=false }=true:=by
 obtain⟨J,a,rfl,L,c2,c3,r,o,l,z,F⟩:=yk h;obtain⟨A,N,l',D,E,K⟩:=cj J;obtain⟨a1,a2,a3,a4,a5⟩:=gQ N;have B:=mU A;rw[kqj,z] at D;cases D;obtain⟨u,rfl⟩:=kq2 (show 0<=t by omega);have m:=aF r;have C:(bkAt ws a).kind=1:=by simp[a8] at o;exact o.1
 have x:=(bD _).1 (fP r);have q:szAt ws a<=10:=by
  have e1:(aq (wd ws a)).size=((szAt ws a:Nat):Int):=rfl;have s:(aq (wd ws a)).kind=1:=C;rcases x.2 with w|w
  .omega
  rw[s] at w;exact absurd w.1 (by omega)
 have y:=zQ (fP r) C;have d:=f9 ws a;have g:∀i,wd (eT ws u (dW ws a)) i=if u<=i/\i<u+szAt ws a then (dW ws a)[i-u]?.getD 0 else wd ws i:=by intro i;rw[rZ _ _ _ _ (by rw[d];omega),d]
 have c:∀j,a+szAt ws a<=j->wd (eT ws u (dW ws a)) j=wd ws j:=λj H=>by rw[g,if_neg (by omega)]
 have k:blocks (eT ws u (dW ws a)) (a+szAt ws a)=some l:=by rw[dX (lz _ _ _) _ c,F]
 have v:∀j,j<128->wd (eT ws u (dW ws a)) j=wd ws j:=λj H=>by rw[g,if_neg (by omega)]
 have I:ci ws l ((u:Int)+(szAt ws a:Nat))=true:=by simp only[ci,o,if_true,kqt] at E;exact E.2.2
 have M:ci (eT ws u (dW ws a)) l ((u+szAt ws a:Nat):Int)=true:=by
  rw[tO v (λb B=>jy z L b (by simp[B]))]
  simpa using I
 have p:bh (eT ws u (dW ws a)) ((a+szAt ws a:Nat):Int) ((u+szAt ws a:Nat):Int)=0:=by
  rw[iY (by rw[lz];exact A) ?_ (by rw[kqj];exact k),if_pos M];rw[lz];cases G:fU ws.length ((a+szAt ws a:Nat):Int) ((u+szAt ws a:Nat):Int) with
  | false=>rfl
  | true=>exact absurd (by omega) ((lg _ _ _).1 G)
 refine⟨a,u,szAt ws a,rfl,rfl,rfl,m.1,q,by omega,by omega,m.2.2,r,o,⟨l,z,F,k,p,?_⟩,?_,y⟩
 .rw[K];have e:iB (eT ws u (dW ws a)) ((a+szAt ws a:Nat):Int) ((u+szAt ws a:Nat):Int)=aB l ((u+szAt ws a:Nat):Int):=by unfold iB;rw[if_pos p,kqj,k]
  rw[e];simp only[aB,o,if_true,ab,bq];simp
 rw[g,if_pos (by omega),kvt,kr _ _ _ (by omega),kq8,if_pos rfl]
def bE (b:Bk) (s:Int):Nat:=if a8 b then s.toNat else 0
def eX (b:Bk) (s:Int):Int:=if a8 b then s+b.size else s
def aV:List Bk->Int->List En
 | [],_=>[]
 | b::l,s=>(if b.kind=1/\b.next≠bE b s then [⟨b.at_+1,bE b s⟩] else [])++aV l (eX b s)
def fwB:List Bk->Int->List Bk
 | [],_=>[]
 | b::l,s=>(if b.kind=1 then { b with next:=bE b s } else b)::fwB l (eX b s)
def ak:List Nat->List En->List Nat
 | ws,[]=>ws
 | ws,e::l=>ak (if 0<=e.a/\e.a<(ws.length:Int) then ws.set e.a.toNat e.v else ws) l
theorem ax(l:List En):∀ws:List Nat,(ak ws l).length=ws.length:=by
 induction l with
 | nil=>intro ws;rfl
 | cons e l ih=>intro ws;simp only[ak,ih];split<;>simp
theorem eK(a b:List En):∀ws:List Nat,ak ws (a++b)=ak (ak ws a) b:=by
 induction a with
 | nil=>intro ws;rfl
 | cons e a ih=>intro ws;simp only[kzm,ak,ih]
theorem aU(l:List En):∀(ws:List Nat) (i:Nat),(∀e∈l,e.a≠(i:Int))->wd (ak ws l) i=wd ws i:=by
 induction l with
 | nil=>intro ws i _;rfl
 | cons e l ih =>
  intro ws i h;simp only[ak];rw[ih _ i (λx b=>h x (by simp[b]))];split
  .rename_i hb;exact iG ws _ (by have:=h e (by simp);omega)
  rfl
theorem sP(a b:List Bk):∀s,aV (a++b) s=aV a s++aV b (aP a s):=by
 induction a with
 | nil=>intro s;rfl
 | cons x a ih =>intro s;simp only[kzm,aV,ih,aP,eX,kxs];cases a8 x<;>simp
theorem qt :∀i l,blocks ws i=some l->∀s,∀e∈aV l s,(i:Int)+1<=e.a/\e.a<(ws.length:Int):=by
 refine d7 _ (λi _ s e h=>by simp[aV] at h) (λi l hi b hb c s e h=>?_);have hsz:=aF b;simp only[aV,kz0] at h;rcases h with h|h
 .split at h
  .simp only[kqx,kzf,or_false] at h;subst h;show (i:Int)+1<=(bkAt ws i).at_+1/\(bkAt ws i).at_+1<_;rw[ab];omega
  simp at h
 have:=c _ e h;omega
theorem qH{v:Nat}(h:i+1<ws.length):bkAt (ws.set (i+1) v) i={ bkAt ws i with next:=v }:=by rw[uB (by omega) h];unfold mY;rw[if_pos (by rw[ab];omega)]
theorem tM{v:Nat}(h:b.next=v):{ b with next:=v }=b:=by subst h;rfl
theorem tA:∀n (ws:List Nat) (i:Nat) (l:List Bk),ws.length-i<=n->blocks ws i=some l->∀s,blocks (ak ws (aV l s)) i=some (fwB l s)/\∀j,j<=i->wd (ak ws (aV l s)) j=wd ws j:=by
 intro n
 induction n with
 | zero =>intro ws i l B h s;rw[aH (by omega)] at h;cases h;exact⟨by simp only[aV,ak,fwB];exact aH (by omega),λj _=>rfl⟩
 | succ n ih =>
  intro ws i l B h s;by_cases c:ws.length<=i
  .rw[aH c] at h;cases h;exact⟨by simp only[aV,ak,fwB];exact aH c,λj _=>rfl⟩
  have c:i<ws.length:=by omega
  cases k:stands ws i with
  | false=>rw[di c k] at h;cases h
  | true =>
   have hsz:=aF k;rw[aR c k] at h;cases q:blocks ws (i+szAt ws i) with
   | none=>rw[q] at h;cases h
   | some l' =>
    rw[q] at h;simp only[kzy,Option.some.injEq] at h;subst h;obtain⟨a,t,b,m,u,e,d⟩:∃a,ak ws (aV (bkAt ws i::l') s)=ak a (aV l' (eX (bkAt ws i) s))/\a.length=ws.length/\bkAt a i=(if (bkAt ws i).kind=1 then { bkAt ws i with next:=bE (bkAt ws i) s } else bkAt ws i)/\stands a i=stands ws i/\szAt a i=szAt ws i/\∀j,j≠i+1->wd a j=wd ws j:=by
     by_cases g:(bkAt ws i).kind=1/\(bkAt ws i).next≠bE (bkAt ws i) s
     .refine ⟨ws.set (i+1) (bE (bkAt ws i) s),?_,by simp,?_,(lX _ (by omega)).1,(lX _ (by omega)).2,λj v=>iG ws _ (by omega)⟩
      .simp only[aV];rw[if_pos g,eK];simp only[ak];rw[if_pos (by rw[ab];omega),ab,show ((i:Int)+1).toNat=i+1 by omega]
      rw[qH (by omega),if_pos g.1]
     refine⟨ws,?_,rfl,?_,rfl,rfl,λj _=>rfl⟩
     .simp only[aV];rw[if_neg g,kz1]
     split
     .rename_i hk;have:(bkAt ws i).next=bE (bkAt ws i) s:=by
       rcases Nat.decEq (bkAt ws i).next (bE (bkAt ws i) s) with p|p
       .exact absurd ⟨hk,p⟩ g
       exact p
      exact (tM this).symm
     rfl
    have o:blocks a (i+szAt ws i)=some l':=by rw[dX b _ (λj v=>d j (by omega)),q]
    obtain⟨w,f⟩:=ih a (i+szAt ws i) l' (by omega) o (eX (bkAt ws i) s);rw[t];obtain⟨E,x⟩:=xq (aV l' (eX (bkAt ws i) s));rw[x] at w f |-;have r:wd (ak a E) i=wd a i:=f i (by omega);have C:wd (ak a E) (i+1)=wd a (i+1):=f (i+1) (by omega);have z:stands (ak a E) i=stands a i:=by unfold stands;rw[r,ax]
    have y:szAt (ak a E) i=szAt a i:=by unfold szAt;rw[r]
    have A:bkAt (ak a E) i=bkAt a i:=by unfold bkAt;rw[r,C]
    refine⟨?_,λj v=>by rw[f j (by omega)];exact d j (by omega)⟩;rw[aR (by rw[ax,b];exact c) (by rw[z,u,k]),y,A,e,w,m];rfl
theorem EG :∀ {s:Int},aP (fwB l s) s=aP l s/\aB (fwB l s) s=aB l s/\(fwB l s).map (λb=>(b.at_,b.size,b.kind,b.mark))=l.map (λb=>(b.at_,b.size,b.kind,b.mark)):=by
 induction l with
 | nil=>intro s;exact⟨rfl,rfl,rfl⟩
 | cons b l ih =>
  intro s;have e:a8 (if b.kind=1 then { b with next:=bE b s } else b)=a8 b:=by split<;>rfl
  have i:(if b.kind=1 then { b with next:=bE b s } else b).size=b.size:=by split<;>rfl
  have f:(if b.kind=1 then { b with next:=bE b s } else b).at_=b.at_:=by split<;>rfl
  have g:(if b.kind=1 then { b with next:=bE b s } else b).kind=b.kind:=by split<;>rfl
  have h:(if b.kind=1 then { b with next:=bE b s } else b).mark=b.mark:=by split<;>rfl
  simp only[fwB,aP,aB,kxj,e,i,f,g,h];unfold eX;split
  .obtain ⟨c,d,a⟩:=ih (s:=s+b.size);rw[c,d,a];exact⟨rfl,rfl,rfl⟩
  obtain⟨c,d,a⟩:=ih (s:=s);rw[c,d,a];exact⟨rfl,rfl,rfl⟩
end Go.Proofs.YtpcajamacpbjcaaGreat
