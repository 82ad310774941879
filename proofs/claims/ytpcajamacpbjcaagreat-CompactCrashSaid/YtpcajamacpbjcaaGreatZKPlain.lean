/- Texts laid together: Base BrkP BrkQ BrkX HeapP KindP FwdP FwdQ FwdR SldP FwbP. -/
import Derived.Test.YtpcajamacpbjcaaGreatRows
import Derived.WalkKit
import Derived.WalkSpells
import Derived.WalkLawsBesides
import Derived.Deep.QuietTactic
import Derived.BigQuiet
import Derived.Lib.Hide
import Derived.Deep.AppendLies
import Derived.Deep.OwnRows
import Derived.Deep.Cut
import Derived.Deep.Draws
import Derived.Deep.LoopGhost
import Derived.Deep.RegionWith
import Derived.WalkSmall
import Derived.Test.YtpcajamacpbjcaaGreatZA
set_option maxHeartbeats 16000000
set_option linter.all false
namespace Go.Proofs.YtpcajamacpbjcaaGreat
open Go.RowKit
variable {p:Addr}{xm:Bool}{f nx s xa xk xt:Int}{ws:List Nat}{xs:List Value}{B H g i j k n sz xn:Nat}{o:Obj}{A:Option Addr}{α:Type}{e t:TypeId}{v x y:Value}{w w' w1 wr:World}
def Rd (w:World) (B:Nat) (A:Option Addr) (xs:List Value):Prop:=
 xs≠[]->∃b off,A=some ⟨b,off,none⟩/\b<B/\∀j (h:j<xs.length),w.cell? ⟨b,off+j,none⟩=some xs[j]
section
variable {w w':World} {B B':Nat} {A:Option Addr} {xs:List Value}
theorem Rd.nil_:Rd w B A []:=λh=>absurd rfl h
theorem Rd.keep(h:Rd w B A xs)(hk:∀p:Addr,p.block<B->w'.cell? p=w.cell? p):Rd w' B A xs:=λf=>by obtain⟨b,a,e,c,d⟩:=h f;exact⟨b,a,e,c,λj g=>(hk ⟨b,a+j,none⟩ c).trans (d j g)⟩
theorem Rd.more(h:Rd w B A xs)(hB:B<=B'):Rd w B' A xs:=λd=>by obtain⟨b,a,e,hb,c⟩:=h d;exact⟨b,a,e,by omega,c⟩
theorem Rd.below(h:Rd w B A xs)(hb:Below B w w'):Rd w' B A xs:=h.keep λ_ a=>hb.cell a
theorem Rd.up(h:Rd w B A xs)(hb:Below B w w')(hB:B<=B'):Rd w' B' A xs:=(h.below hb).more hB
theorem Rd.alloc(h:Rd w B A xs)(hB:B<=w.heap.size)(o:Obj):Rd (w.alloc o) B A xs:=h.keep λp hp=>kzi w o p (by omega)
theorem Rd.set_(h:Rd w B A xs)(hB:B<=p.block)(u:Value):Rd (w.setCell p u) B A xs:=
 h.keep λq hq=>kj1 w p q u (λe=>by subst e;omega)
theorem Rd.drop_(h:Rd w B A xs)(k:Nat):Rd w B (A.map (·.add k)) (xs.drop k):=λl=>by
 have c:k<xs.length:=by
  rcases kq6 k xs.length with d|d
  .exact d
  exact absurd (kky d) l
 obtain⟨b,f,rfl,g,i⟩:=h (by intro e;subst e;simp at c);refine⟨b,f+k,?_,g,λj m=>?_⟩
 .simp only[kzz,Addr.add];split<;>simp_all
 have a:k+j<xs.length:=by simp at m;omega
 rw[kj4,kjx];exact i _ a
theorem Rd.take_(h:Rd w B A xs)(k:Nat):Rd w B A (xs.take k):=λf=>by obtain⟨b,a,rfl,c,d⟩:=h (by intro e;subst e;simp at f);exact⟨b,a,rfl,c,λj g=>by rw[kkf];exact d j (by simp at g;omega)⟩
theorem Rd.of_own{base size:Nat}{c:Nat}(h:w.ownsRow base e size (.slice A n c) n xs):Rd w w.heap.size A xs:=λd=>by
 have f:0<n:=by
  rcases kx6 n with b|b
  .have:=h.1;subst b;simp at this;exact absurd this d
  exact b
 obtain⟨g,cap,i,_,a⟩:=h.form f;have l:A=some ⟨g,0,none⟩:=by injection i
 subst l;refine⟨g,0,rfl,a,λj k=>?_⟩;have:=h.cells (g:=g) rfl j xs[j] (kqk k);have e:(⟨g,0,none⟩:Addr).add j=⟨g,0+j,none⟩:=by unfold Addr.add;split<;>simp_all
 rwa [e] at this
end
theorem cj(f:α->List Value)(sz:Nat)(hf:∀x,(f x).length=sz)(l:List α):(l.flatMap f).length=l.length*sz:=by
 induction l with
 | nil=>simp
 | cons x l ih=>rw[kzy,kqu,hf,ih,kq2,kjg];omega
theorem iM(f:α->List Value)(sz:Nat)(hf:∀x,(f x).length=sz)(l:List α)(k j:Nat)(hk:k<l.length)(hj:j<sz):
 (l.flatMap f)[k*sz+j]? = (f l[k])[j]?:=by
 induction l generalizing k with
 | nil=>simp at hk
 | cons x l ih =>
  rw[kzy];cases k with
  | zero=>rw[kkj (by rw[hf];omega)];simp
  | succ k =>
   rw[kxh (by rw[hf,kjg];omega),hf];have:(k+1)*sz+j-sz=k*sz+j:=by rw[kjg];omega
   rw[this,ih k (by simpa using hk)];simp
theorem Rd.at_flat{f:α->List Value}{l:List α}(hf:∀x,(f x).length=sz)(h:Rd w B A (l.flatMap f))(hsz:0<sz)(hk:k<l.length):
 ∃b a,A=some ⟨b,a,none⟩/\b<B/\∀j,j<sz->w.cell? ⟨b,a+k*sz+j,none⟩=(f l[k])[j]?:=by
 have g:=cj f sz hf l;have c:0<(l.flatMap f).length:=by rw[g];exact Nat.mul_pos (by omega) hsz
 obtain⟨b,a,rfl,m,n⟩:=h (by intro e;rw[e] at c;simp at c);refine⟨b,a,rfl,m,λj o=>?_⟩;have d:k*sz+j<(l.flatMap f).length:=by rw[g];have:(k+1)*sz<=l.length*sz:=kxs _ hk;rw[kjg] at this;omega
 have i:=n _ d;rw[<-kjx] at i;rw[i,<-iM f sz hf l k j hk o];exact (kqk d).symm
structure En where
 a:Int
 v:Nat
 deriving DecidableEq,Inhabited
def En.cells (e:En):List Value:=[.int .i64 e.a,.int .u64 (e.v:Int)]
structure Bk where
 at_:Int
 size:Int
 kind:Int
 typ:Int
 mark:Bool
 next:Nat
 deriving DecidableEq,Inhabited
variable {b:Bk}{l:List Bk}
def Bk.cells (b:Bk):List Value:=[.int .i64 b.at_,.int .i64 b.size,.int .i64 b.kind,.int .i64 b.typ,.bool b.mark,.int .u64 (b.next:Int)]
def Bk.val (b:Bk):Value:=.agg #[.int .i64 b.at_,.int .i64 b.size,.int .i64 b.kind,.int .i64 b.typ,.bool b.mark,.int .u64 (b.next:Int)]
def cQ (x:Int):List Value:=[.int .i64 x]
def ab (x:Nat):List Value:=[.int .u64 (x:Int)]
def RdE (w:World) (B:Nat) (A:Option Addr) (l:List En):Prop:=Rd w B A (l.flatMap En.cells)
def RdB (w:World) (B:Nat) (A:Option Addr) (l:List Bk):Prop:=Rd w B A (l.flatMap Bk.cells)
def RdI (w:World) (B:Nat) (A:Option Addr) (l:List Int):Prop:=Rd w B A (l.flatMap cQ)
def RdW (w:World) (B:Nat) (A:Option Addr) (l:List Nat):Prop:=Rd w B A (l.flatMap ab)
theorem En.len(x:En):x.cells.length=2:=rfl
theorem Bk.len(x:Bk):x.cells.length=6:=rfl
theorem jg(x:Int):(cQ x).length=1:=rfl
theorem bh(x:Nat):(ab x).length=1:=rfl
theorem RdE.at_{l:List En}(h:RdE w B A l)(hk:k<l.length):
 ∃b c,A=some ⟨b,c,none⟩/\b<B/\w.cell? ⟨b,c+k*2,none⟩=some (.int .i64 l[k].a)/\w.cell? ⟨b,c+k*2+1,none⟩=some (.int .u64 (l[k].v:Int)):=by obtain⟨b,c,e,f,d⟩:=Rd.at_flat En.len h (by omega) hk;exact⟨b,c,e,f,d 0 (by omega),d 1 (by omega)⟩
theorem RdB.at_(h:RdB w B A l)(hk:k<l.length):
 ∃b a,A=some ⟨b,a,none⟩/\b<B/\w.cell? ⟨b,a+k*6,none⟩=some (.int .i64 l[k].at_)/\w.cell? ⟨b,a+k*6+1,none⟩=some (.int .i64 l[k].size) /\
  w.cell? ⟨b,a+k*6+2,none⟩=some (.int .i64 l[k].kind)/\w.cell? ⟨b,a+k*6+3,none⟩=some (.int .i64 l[k].typ) /\
  w.cell? ⟨b,a+k*6+4,none⟩=some (.bool l[k].mark)/\w.cell? ⟨b,a+k*6+5,none⟩=some (.int .u64 (l[k].next:Int)):=by obtain⟨b,a,e,d,c⟩:=Rd.at_flat Bk.len h (by omega) hk;exact⟨b,a,e,d,c 0 (by omega),c 1 (by omega),c 2 (by omega),c 3 (by omega),c 4 (by omega),c 5 (by omega)⟩
theorem RdI.at_{l:List Int}(h:RdI w B A l)(hk:k<l.length):
 ∃b a,A=some ⟨b,a,none⟩/\b<B/\w.cell? ⟨b,a+k,none⟩=some (.int .i64 l[k]):=by obtain⟨b,a,e,c,d⟩:=Rd.at_flat jg h (by omega) hk;have:=d 0 (by omega);simp only[kxo,kz8] at this;exact⟨b,a,e,c,this⟩
theorem RdW.at_{l:List Nat}(h:RdW w B A l)(hk:k<l.length):
 ∃b a,A=some ⟨b,a,none⟩/\b<B/\w.cell? ⟨b,a+k,none⟩=some (.int .u64 (l[k]:Int)):=by obtain⟨b,a,e,c,d⟩:=Rd.at_flat bh h (by omega) hk;have:=d 0 (by omega);simp only[kxo,kz8] at this;exact⟨b,a,e,c,this⟩
theorem cB(h:B<=w.heap.size):B<=(w.alloc o).heap.size:=by rw[kqm];omega
theorem jW{a:World}(h:Below B a w)(n:Nat):Below B a (w.drewN n):=⟨h.os,h.tape,h.output,h.size,h.block⟩
theorem mN{b:Nat}{f:Nat->Value}(h:w.rowIs b t n f)(hb:Below B w w')(hlt:b<B):w'.rowIs b t n f:=h.of_block (hb.block b hlt)
theorem GA{k:IntKind}{a b:Int}(h:a=b):Ending.returned (.int k a)=.returned (.int k b):=by rw[h]
theorem box_of{cs:Array Value}(hB:Below (w.heap.size+1) (w.alloc (.cells cs t)) w1):
 (∀i,w1.cell? ⟨w.heap.size,i,none⟩=cs[i]?)/\(∀i,w1.frozen? ⟨w.heap.size,i,none⟩=false)/\Below w.heap.size w w1/\w.heap.size<w1.heap.size:=by have a:w1.heap[w.heap.size]? = some (.cells cs t (0,0)):=(hB.block w.heap.size (by omega)).trans (heap_alloc_new w _);refine⟨λi=>cell_of_row w1 _ i cs t (0,0) a,λi=>by simp[World.frozen?,a],((kql _ _).alloc (kqd _) _).trans (hB.mono (by omega)),?_⟩;have:=hB.size;simp at this;omega
def Bx (w:World) (g:Nat) (t:TypeId) (cs:Array Value):Prop:=w.heap[g]? = some (.cells cs t (0,0))
section
variable {w w':World} {g B:Nat} {t:TypeId} {cs:Array Value}
theorem Bx.lt(h:Bx w g t cs):g<w.heap.size:=by
 rcases kq6 g w.heap.size with a|b
 .exact a
 unfold Bx at h;rw[kje b] at h;cases h
theorem Bx.cell(h:Bx w g t cs)(i:Nat):w.cell? ⟨g,i,none⟩=cs[i]?:=cell_of_row w g i cs t (0,0) h
theorem Bx.frozen(h:Bx w g t cs)(i:Nat):w.frozen? ⟨g,i,none⟩=false:=by unfold Bx at h;simp[World.frozen?,h]
theorem Bx.new(w:World)(t:TypeId)(cs:Array Value):Bx (w.alloc (.cells cs t)) w.heap.size t cs:=heap_alloc_new w _
theorem Bx.alloc(h:Bx w g t cs)(o:Obj):Bx (w.alloc o) g t cs:=(Below.heap_alloc w o g h.lt).trans h
theorem Bx.far(h:Bx w g t cs)(hp:g≠p.block)(u:Value):Bx (w.setCell p u) g t cs:=(kkq w p u g hp).trans h
theorem Bx.up(h:Bx w g t cs)(hb:Below B w w')(hg:g<B):Bx w' g t cs:=(hb.block g hg).trans h
theorem Bx.set_(h:Bx w g t cs)(i:Nat)(u:Value):Bx (w.setCell ⟨g,i,none⟩ u) g t (cs.setIfInBounds i u):=by unfold Bx at h |-;simp[World.setCell,Array.getElem?_modify,h]
theorem Bx.of_new(hB:Below (w.heap.size+1) (w.alloc (.cells cs t)) w'):Bx w' w.heap.size t cs:=(Bx.new w t cs).up hB (by omega)
theorem Bx.c1(h:Bx w g t #[x]):w.cell? ⟨g,0,none⟩=some x/\w.frozen? ⟨g,0,none⟩=false/\g<w.heap.size:=⟨h.cell 0,h.frozen 0,h.lt⟩
theorem Bx.c2(h:Bx w g t #[x,y]):w.cell? ⟨g,0,none⟩=some x/\w.cell? ⟨g,1,none⟩=some y/\w.frozen? ⟨g,0,none⟩=false/\w.frozen? ⟨g,1,none⟩=false/\g<w.heap.size:=
 ⟨h.cell 0,h.cell 1,h.frozen 0,h.frozen 1,h.lt⟩
theorem Bx.c3{z:Value}(h:Bx w g t #[x,y,z]):w.cell? ⟨g,0,none⟩=some x/\w.cell? ⟨g,1,none⟩=some y/\w.cell? ⟨g,2,none⟩=some z /\
 w.frozen? ⟨g,0,none⟩=false/\w.frozen? ⟨g,1,none⟩=false/\w.frozen? ⟨g,2,none⟩=false/\g<w.heap.size:=
 ⟨h.cell 0,h.cell 1,h.cell 2,h.frozen 0,h.frozen 1,h.frozen 2,h.lt⟩
theorem Bx.c6{x0 x1 x2 x3 x4 x5:Value}(h:Bx w g t #[x0,x1,x2,x3,x4,x5]):w.cell? ⟨g,0,none⟩=some x0/\w.cell? ⟨g,1,none⟩=some x1/\w.cell? ⟨g,2,none⟩=some x2 /\
 w.cell? ⟨g,3,none⟩=some x3/\w.cell? ⟨g,4,none⟩=some x4/\w.cell? ⟨g,5,none⟩=some x5/\(∀i,w.frozen? ⟨g,i,none⟩=false)/\g<w.heap.size:=
 ⟨h.cell 0,h.cell 1,h.cell 2,h.cell 3,h.cell 4,h.cell 5,h.frozen,h.lt⟩
end
theorem av(hB:Below (w.heap.size+1) (w.alloc o) w1):Below w.heap.size w w1:=((kql _ _).alloc (kqd _) _).trans (hB.mono (by omega))
theorem cC(w:World)(cs:List Value)(t:TypeId):∀j u,cs[j]? = some u->(w.alloc (.cells cs.toArray t)).cell? ((⟨w.heap.size,0,none⟩:Addr).add j)=some u:=by
 intro j u a;have e:(⟨w.heap.size,0,none⟩:Addr).add j=⟨w.heap.size,j,none⟩:=by unfold Addr.add;split<;>simp_all
 rw[e,(Bx.new w t cs.toArray).cell j]
 simpa using a
theorem aC(hB:Below H w wr)(hH:H<=wr.heap.size)(hown:wr.ownsRow H e sz v n xs)(hg:(wr.alloc o).grownBy w1 v.ownBlock):Below H w w1:=
 (hB.alloc hH _).grown hg (cB hH) (λk a=>(hown.lt k a).1)
theorem co(hB:Below H w wr)(hH:H<=wr.heap.size)(hown:wr.ownsRow H e sz v n xs)(hg:wr.grownBy w1 v.ownBlock):Below H w w1:=
 hB.grown hg hH (λk a=>(hown.lt k a).1)
theorem Bx.grown{cs:Array Value}{row:Option Nat}(h:Bx w g t cs)(hb:w.grownBy w' row)(hg:some g≠row):Bx w' g t cs:=(hb.block g h.lt hg).trans h
theorem bK(hown:w.ownsRow H e sz v n xs)(hg:g<H):some g≠v.ownBlock:=λh=>by have:=(hown.lt g h.symm).1;omega
theorem aJ(hown:w.ownsRow H e sz v n xs):∃A c,v=.slice A n c:=by
 rcases hown.2 with⟨rfl,rfl⟩|⟨g,cap,cur,rfl,_⟩
 .exact ⟨none,0,rfl⟩
 exact⟨_,_,rfl⟩
theorem ai(h:w.ownsRow H e sz v n xs)(hb:Below B w w')(hB:w.heap.size<=B):w'.ownsRow H e sz v n xs:=by
 refine⟨h.1,?_⟩;rcases h.2 with i|⟨g,f,d,j,c,a,b⟩
 .exact .inl i
 exact .inr ⟨g,f,d,j,c,(hb.block g (by have:=(kjv.1 a).1;omega)).trans a,b⟩
theorem ce(f:α->List Value)(l:List α)(x:α):(l++[x]).flatMap f=l.flatMap f++f x:=by simp
def En.ok (e:En):Prop:=-9223372036854775808<=e.a/\e.a<=9223372036854775807/\e.v<18446744073709551616
structure Ch where
 A:Option Addr
 c:Nat
 l:List En
 deriving Inhabited
def Ch.cells (x:Ch):List Value:=[.slice x.A x.l.length x.c]
def RdC (w:World) (B:Nat) (A:Option Addr) (l:List Ch):Prop:=Rd w B A (l.flatMap Ch.cells)
theorem Ch.len(x:Ch):x.cells.length=1:=rfl
theorem RdC.at_{l:List Ch}(h:RdC w B A l)(hk:k<l.length):
 ∃b a,A=some ⟨b,a,none⟩/\b<B/\w.cell? ⟨b,a+k,none⟩=some (.slice l[k].A l[k].l.length l[k].c):=by obtain⟨b,a,e,d,f⟩:=Rd.at_flat Ch.len h (by omega) hk;have:=f 0 (by omega);simp only[kxo,kz8] at this;exact⟨b,a,e,d,this⟩
def cE (l:List En):List Int:=l.map En.a
theorem da(l:List En):(cE l).length=l.length:=by simp[cE]
theorem fd(l:List En)(k:Nat)(h:k<l.length):(cE l)[k]?.getD 0=l[k].a:=by simp[cE,h]
theorem ao{M:Nat}(h:w.ownsRow M e sz v n xs)(hH:H<=M):w.ownsRow H e sz v n xs:=by
 refine⟨h.1,?_⟩;rcases h.2 with d|⟨g,c,b,f,hb1,a⟩
 .exact .inl d
 exact .inr ⟨g,c,b,f,by omega,a⟩
theorem fE{H':Nat}{e':TypeId}{sz' n':Nat}{v':Value}{xs':List Value}(h:w.ownsRow H e sz v n xs)(h':w.ownsRow H' e' sz' v' n' xs')(hne:e≠e'):v.ownBlock=none\/v.ownBlock≠v'.ownBlock:=by
 rcases h.2 with⟨rfl,_⟩|⟨g,cap,cur,rfl,_,b,_⟩
 .exact .inl rfl
 right;rcases h'.2 with⟨rfl,_⟩|⟨g',cap',cur',rfl,_,a,_⟩
 .simp[Value.ownBlock]
 simp only[Value.ownBlock,ne_eq,Option.some.injEq];rintro rfl;rw[b] at a;simp only[Option.some.injEq,Obj.cells.injEq] at a;exact hne a.2.1
theorem ll(f:α->List Value)(hf:∀x,(f x).length=1)(l:List α)(n:Nat):(l.take n).flatMap f=(l.flatMap f).take n:=by
 induction l generalizing n with
 | nil=>simp
 | cons x l ih =>
  have a:=hf x
  match hfx:f x,a with
  | [u],_ =>
   cases n with
   | zero=>simp
   | succ n=>simp[List.flatMap_cons,hfx,ih]
theorem oN(f:α->List Value)(hf:∀x,(f x).length=1)(l:List α)(n:Nat):(l.drop n).flatMap f=(l.flatMap f).drop n:=by
 induction l generalizing n with
 | nil=>simp
 | cons x l ih =>
  have a:=hf x
  match hfx:f x,a with
  | [u],_ =>
   cases n with
   | zero=>simp
   | succ n=>simp[List.flatMap_cons,hfx,ih]
def ii (H:Nat) (err:Int) (out:List En) (e:Ending) (w':World):Prop:=∃A c,e=.returned (.tuple #[.slice A out.length c,.int .i64 err])/\w'.ownsRow H 89 2 (.slice A out.length c) out.length (out.flatMap En.cells)
theorem bL{err r:Int}{out:List En}(h1:err=r)(h2:out=[]):ii H err out (.returned (.tuple #[.slice none 0 0,.int .i64 r])) w':=by subst h1 h2;exact⟨none,0,rfl,kq8 _ _ _ _⟩
def gk (l:List Bk) (k:Nat):Bk:=l[k]?.getD default
theorem bN(l:List Bk)(k:Nat)(h:k<l.length):gk l k=l[k]:=by simp[gk,h]
def Cr (b:Bk):Bool:=(b.kind==1||b.kind==2)&&((decide (2<=b.size)&&(decide (b.size<=2048)&&b.size%2==0))&&(decide (128<=b.at_)&&(b.at_%2==0&&decide (b.at_<=2048-b.size))))
def dD (l:List Bk):Nat->Int
 | 0=>128
 | k+1=>(gk l k).at_+(gk l k).size
def cX (l:List Bk):Nat->Bool
 | 0=>true
 | k+1=>cX l k&&(Cr (gk l k)&&(decide (k=0)||(gk l k).at_==dD l k))
def yZ (l:List Bk):Bool:=decide (l.length<=1024)&&cX l l.length
def b8 (l:List Bk):Int:=if yZ l then 0 else 8
theorem fi(h:cX l n=true)(hk:k<=n):cX l k=true:=by
 induction n with
 | zero =>
  have:k=0:=by omega
  subst this;exact h
 | succ n ih =>
  rcases kq6 k (n+1) with a|a
  .simp only[cX,kqt] at h;exact ih h.1 (by omega)
  have:k=n+1:=by omega
  subst this;exact h
theorem dG(h:cX l n=true)(hk:k<n):Cr (gk l k)=true/\(k=0\/(gk l k).at_=dD l k):=by have:=fi h (show k+1<=n from hk);simp only[cX,kqt,kxv,kzc,kqw] at this;exact this.2
theorem tD(h:1024<l.length):b8 l=8:=by
 have:¬ l.length<=1024:=by omega
 simp[b8,yZ,this]
theorem wI(h:cX l k=false)(hk:k<=l.length):b8 l=8:=by
 have:cX l l.length=false:=by
  cases a:cX l l.length with
  | false=>rfl
  | true=>rw[fi a hk] at h;cases h
 simp[b8,yZ,this]
theorem qD(h:l.length<=1024)(hk:cX l l.length=true):b8 l=0:=by simp[b8,yZ,h,hk]
theorem dj(h:b8 l=0):l.length<=1024/\cX l l.length=true:=by
 unfold b8 yZ at h;split at h
 .rename_i h1
  simpa using h1
 simp at h
theorem vA(l:List Bk):b8 l=0\/b8 l=8:=by unfold b8;split<;>simp
theorem eD(b:Bk):Cr b=true↔(b.kind=1\/b.kind=2)/\2<=b.size/\b.size<=2048/\b.size%2=0/\128<=b.at_/\b.at_%2=0/\b.at_<=2048-b.size:=by
 simp only[Cr,kqt,kxv,kqw,kzc];constructor
 .rintro ⟨d,⟨a,h,f⟩,g,e,c⟩;exact⟨d,a,h,f,g,e,c⟩
 rintro ⟨d,a,h,f,g,e,c⟩;exact⟨d,⟨a,h,f⟩,g,e,c⟩
theorem Ac(h:Cr (gk l k)=false):cX l (k+1)=false:=by simp[cX,h]
theorem vI(h0:k≠0)(h:(gk l k).at_≠dD l k):cX l (k+1)=false:=by
 have:((gk l k).at_==dD l k)=false:=by rw[kqi];exact h
 simp[cX,this,h0]
theorem pe(hp:cX l k=true)(h:Cr (gk l k)=true)(hn:k=0\/(gk l k).at_=dD l k):cX l (k+1)=true:=by
 rcases hn with a|a
 .subst a;simp[cX,h]
 simp[cX,hp,h,a]
theorem pb(h:cX l k=true):128<=dD l k/\dD l k<=2048:=by
 cases k with
 | zero=>simp[dD]
 | succ k =>obtain⟨a,_⟩:=dG h (kjw k);have:=(eD _).1 a;simp only[dD];omega
def aV (b:Bk):Bool:=b.kind==1&&b.mark
def bo:List Bk->Int->List Int
 | [],_=>[]
 | b::l,s=>if aV b then s::bo l (s+b.size) else 0::bo l s
def aK:List Bk->Int->Int
 | [],s=>s
 | b::l,s=>if aV b then aK l (s+b.size) else aK l s
def gC:List Bk->Int
 | []=>0
 | b::l=>if aV b then gC l else b.size+gC l
def nO (l:List Bk):Int:=if l.length=0 then 2048 else (gk l 0).at_
def ew (l:List Bk) (s:Int):Int:=if b8 l=0 then (if s<128 then 2 else if nO l<s then 2 else if s%2=0 then 0 else 2) else 8
theorem dd(l:List Bk)(s:Int):(bo l s).length=l.length:=by
 induction l generalizing s with
 | nil=>rfl
 | cons b l ih=>simp only[bo];split<;>simp[ih]
theorem gF(a b:List Bk)(s:Int):aK (a++b) s=aK b (aK a s):=by
 induction a generalizing s with
 | nil=>rfl
 | cons x a ih=>simp only[kzq,aK];split<;>exact ih _
theorem jk(a b:List Bk)(s:Int):bo (a++b) s=bo a s++bo b (aK a s):=by
 induction a generalizing s with
 | nil=>rfl
 | cons x a ih=>simp only[kzq,bo,aK];split<;>simp[ih]
theorem p9(a b:List Bk):gC (a++b)=gC a+gC b:=by
 induction a with
 | nil=>simp[gC]
 | cons x a ih=>simp only[kzq,gC];split<;>omega
theorem ia(h:k<l.length)(s:Int):aK (l.take (k+1)) s=if aV l[k] then aK (l.take k) s+l[k].size else aK (l.take k) s:=by rw[kqo h,gF];rfl
theorem ks(h:k<l.length)(s:Int):bo (l.take (k+1)) s=bo (l.take k) s++[if aV l[k] then aK (l.take k) s else 0]:=by rw[kqo h,jk];simp only[bo];split<;>rfl
theorem tC(h:k<l.length):gC (l.take (k+1))=if aV l[k] then gC (l.take k) else gC (l.take k)+l[k].size:=by rw[kqo h,p9];simp only[gC];split<;>omega
def nU (l:List Bk) (k:Nat):Int:=if k=0 then 0 else dD l k-(gk l 0).at_
theorem oC(h:cX l k=true)(hk:k<=l.length)(s:Int):0<=aK (l.take k) s-s/\0<=gC (l.take k)/\(aK (l.take k) s-s)+gC (l.take k)=nU l k/\nU l k<=1920:=by
 induction k with
 | zero=>simp[aK,gC,nU]
 | succ k ih =>
  have a:k<l.length:=by omega
  obtain⟨i1,i2,i3,i4⟩:=ih (fi h (kx7 k)) (by omega);obtain⟨d,b⟩:=dG h (kjw k);have d:=(eD _).1 d;have hb0:=(eD _).1 (dG h (Nat.succ_pos k)).1;rw[ia a,tC a];have e:nU l (k+1)=nU l k+(gk l k).size:=by
   unfold nU;rw[if_neg (Nat.succ_ne_zero k),show dD l (k+1)=(gk l k).at_+(gk l k).size from rfl];by_cases c:k=0
   .subst c;rw[if_pos rfl];omega
   rw[if_neg c];rcases b with b|b
   .exact absurd b c
   omega
  have f:nU l (k+1)<=1920:=by unfold nU;rw[if_neg (Nat.succ_ne_zero k),show dD l (k+1)=(gk l k).at_+(gk l k).size from rfl];omega
  rw[e] at f |-;rw[<-bN l k a];split<;>omega
theorem yx(h:b8 l=0):nO l<=2048:=by
 unfold nO;split
 .omega
 have:=(eD _).1 (dG (dj h).2 (show 0<l.length by omega)).1;omega
theorem kx(h:b8 l=0)(hk:k<=l.length)(hs:128<=s)(hm:s<=nO l):128<=aK (l.take k) s/\aK (l.take k) s<=2048:=by
 obtain⟨h1,a⟩:=dj h;have hmb:=yx h;obtain⟨i1,i2,d,i4⟩:=oC (fi a hk) hk s;refine⟨by omega,?_⟩;by_cases b:k=0
 .subst b;simp[aK];omega
 have hn:=(pb (fi a hk)).2;have c:l.length≠0:=by omega
 simp only[nU,b,if_false] at d;simp only[nO,c,if_false] at hm;omega
theorem BC{xs:Int}(hx:gk l k=⟨xa,xs,xk,xt,xm,xn⟩)(hn:dD l k=nx)(h:¬ ((xk=1\/xk=2)/\2<=xs/\xs<=2048/\xs%2=0/\128<=xa/\xa%2=0/\xa<=2048-xs/\(k=0\/xa=nx))):cX l (k+1)=false:=by
 by_cases b:Cr (gk l k)=true
 .have a:=(eD _).1 b;rw[hx] at a;dsimp only at a;refine vI (by omega) ?_;rw[hx,hn];dsimp only;omega
 exact Ac (by cases hq:Cr (gk l k)<;>simp_all)
theorem tA{xs:Int}(hx:gk l k=⟨xa,xs,xk,xt,xm,xn⟩)(hn:dD l k=nx)(hp:cX l k=true)(h:(xk=1\/xk=2)/\2<=xs/\xs<=2048/\xs%2=0/\128<=xa/\xa%2=0/\xa<=2048-xs/\(k=0\/xa=nx)):cX l (k+1)=true:=by
 refine pe hp ((eD _).2 ?_) ?_
 .rw[hx];dsimp only;omega
 rw[hx,hn];dsimp only;omega
theorem Gt(h:b8 l≠0):ew l s=b8 l:=by
 rcases vA l with a|a
 .exact absurd a h
 simp[ew,a]
theorem Hj(h:b8 l=0)(h2:s<128\/nO l<s\/s%2≠0):ew l s=2:=by
 unfold ew;rw[if_pos h];by_cases a:s<128
 .rw[if_pos a]
 rw[if_neg a];by_cases b:nO l<s
 .rw[if_pos b]
 rw[if_neg b,if_neg (by omega)]
theorem Br(h:b8 l=0)(h2:128<=s/\s<=nO l/\s%2=0):ew l s=0:=by unfold ew;rw[if_pos h,if_neg (by omega),if_neg (by omega),if_pos h2.2.2]
theorem eP(h:ew l s=0):b8 l=0/\128<=s/\s<=nO l/\s%2=0:=by
 unfold ew at h;split at h
 .split at h
  .simp at h
  split at h
  .simp at h
  split at h
  .exact ⟨by assumption,by omega,by omega,by assumption⟩
  simp at h
 simp at h
theorem sQ(h:b8 l=0)(hm:s<=nO l)(hk:k<l.length):aK (l.take k) s<=(gk l k).at_:=by
 obtain⟨h1,b⟩:=dj h;obtain⟨i1,i2,e,i4⟩:=oC (fi b (kz7 hk)) (kz7 hk) s;have d:l.length≠0:=by omega
 simp only[nO,d,if_false] at hm;by_cases a:k=0
 .subst a;simp[aK];exact hm
 simp only[nU,a,if_false] at e;rcases (dG b hk).2 with c|c
 .exact absurd c a
 omega
theorem sN(hk:k<l.length):(bo l s)[k]? = some (if aV (gk l k) then aK (l.take k) s else 0):=by
 have b:=ks hk s;have c:bo l s=bo (l.take (k+1)) s++bo (l.drop (k+1)) (aK (l.take (k+1)) s):=by rw[<-jk,kxg]
 have a:(bo (l.take k) s).length=k:=by rw[dd,kq3];omega
 rw[c,b,kxr,kxh (by omega),a,bN l k hk];simp
def E8 (s b:Nat):Nat:=((s ^^^ b)*1099511628211)%18446744073709551616
def iV (w i:Nat):Nat:=w/256 ^ i%256
def yC (s w:Nat):Nat->Nat
 | 0=>s
 | k+1=>E8 (yC s w k) (iV w k)
def fnvW (s w:Nat):Nat:=yC s w 8
def aS (s:Nat):List Nat->Nat
 | []=>s
 | w::l=>aS (fnvW s w) l
def gM (w:Nat):Nat:=fnvW 14695981039346656037 w
theorem rV(w i:Nat):iV w i<256:=kz0 _ (by omega)
theorem GX(s b:Nat):E8 s b<18446744073709551616:=kz0 _ (by omega)
theorem sA{s:Nat}(hs:s<18446744073709551616)(w k:Nat):yC s w k<18446744073709551616:=by
 cases k with
 | zero=>exact hs
 | succ k=>exact GX _ _
theorem Ie{s:Nat}(hs:s<18446744073709551616)(w:Nat):fnvW s w<18446744073709551616:=sA hs w 8
theorem gP{s:Nat}(hs:s<18446744073709551616)(l:List Nat):aS s l<18446744073709551616:=by
 induction l generalizing s with
 | nil=>exact hs
 | cons w l ih=>exact ih (Ie hs w)
theorem n8(s:Nat)(a b:List Nat):aS s (a++b)=aS (aS s a) b:=by
 induction a generalizing s with
 | nil=>rfl
 | cons w a ih=>exact ih _
theorem lQ{l:List Nat}(h:k<l.length)(s:Nat):aS s (l.take (k+1))=fnvW (aS s (l.take k)) l[k]:=by rw[kqo h,n8];rfl
theorem F6(s b:Nat)(hb:b<256):s-s%256+((s%256) ^^^ b)=s ^^^ b:=by
 have c:(s%256) ^^^ b<2 ^ 8:=Nat.xor_lt_two_pow (kz0 _ (by omega)) hb;have d:s-s%256=2 ^ 8*(s/256):=by have:=kvf s 256;omega
 apply Nat.eq_of_testBit_eq;intro j;rw[d,Nat.testBit_two_pow_mul_add _ c,Nat.testBit_xor];split
 .rename_i hj;rw[Nat.testBit_xor,show (256:Nat)=2 ^ 8 from rfl,Nat.testBit_mod_two_pow];simp[hj]
 rename_i hj;have a:b.testBit j=false:=Nat.testBit_lt_two_pow (kjm hb (by
  have:2 ^ 8<=2 ^ j:=kx9 (by omega) (by omega)
  simpa using this))
 rw[Nat.testBit_xor,a,Bool.xor_false,show (256:Nat)=2 ^ 8 from rfl,<-Nat.shiftRight_eq_div_pow,Nat.testBit_shiftRight];congr 1;omega
def iY (b:Bk):Bool:=(decide (2<=b.size)&&b.size%2==0)&&((b.kind==1&&(decide (0<=b.typ)&&(decide (b.typ<8)&&decide (b.size<=10))))||(b.kind==2&&(b.typ==0&&(!b.mark&&decide (b.size<=1920)))))
theorem bA(b:Bk):iY b=true↔(2<=b.size/\b.size%2=0)/\(b.kind=1/\0<=b.typ/\b.typ<8/\b.size<=10\/b.kind=2/\b.typ=0/\b.mark=false/\b.size<=1920):=by simp only[iY,kqt,kxv,kqw,kzc,kx2]
def nQ (m:Bool):Nat:=if m then 1 else 0
def ku (b:Bk):Nat:=b.kind.toNat+nQ b.mark*256+b.typ.toNat*512+b.size.toNat*65536
def cR (b:Bk):Nat:=ku b+gM (ku b)%4294967296*4294967296
def ar (w:Nat):Bk:=⟨0,(w/65536%65536:Nat),(w%256:Nat),(w/512%128:Nat),w/256%2==1,0⟩
def aB (w:Nat):Bool:=iY (ar w)&&cR (ar w)==w
theorem yG(m:Bool):nQ m<=1:=by cases m<;>simp[nQ]
theorem sq(h:iY b=true):b.kind.toNat<256/\b.typ.toNat<128/\b.size.toNat<65536/\0<=b.kind/\0<=b.typ/\0<=b.size/\b.size<=1920:=by have:=(bA b).1 h;omega
theorem uU(h:iY b=true):ku b<4294967296:=by obtain⟨h1,h2,h3,-⟩:=sq h;have:=yG b.mark;unfold ku;omega
theorem qi(h:iY b=true):cR b<18446744073709551616:=by have h1:=uU h;have h2:gM (ku b)%4294967296<4294967296:=kz0 _ (by omega);unfold cR;omega
theorem mw(h:iY b=true):ar (cR b)=⟨0,b.size,b.kind,b.typ,b.mark,0⟩:=by
 obtain⟨h1,h2,h3,h4,h5,h6,h7⟩:=sq h;have hm:=yG b.mark;unfold ar cR;generalize gM (ku b)%4294967296=t;have hl:ku b=b.kind.toNat+nQ b.mark*256+b.typ.toNat*512+b.size.toNat*65536:=rfl;generalize ku b=q at *;generalize a:nQ b.mark=m at *;have c:(q+t*4294967296)/65536%65536=b.size.toNat:=by omega
 have d:(q+t*4294967296)%256=b.kind.toNat:=by omega
 have e:(q+t*4294967296)/512%128=b.typ.toNat:=by omega
 have f:(q+t*4294967296)/256%2=m:=by omega
 rw[c,d,e,f];congr 1
 .omega
 .omega
 .omega
 rw[<-a];cases b.mark<;>simp[nQ]
theorem vt{a:Bk}(h1:a.size=b.size)(h2:a.kind=b.kind)(h3:a.typ=b.typ)(h4:a.mark=b.mark):cR a=cR b/\iY a=iY b:=by unfold cR ku iY;rw[h1,h2,h3,h4];exact⟨rfl,rfl⟩
theorem oG(h:iY b=true):aB (cR b)=true:=by unfold aB;rw[mw h];have:=vt (a:=⟨0,b.size,b.kind,b.typ,b.mark,0⟩) (b:=b) rfl rfl rfl rfl;rw[this.1,this.2,h];simp
def wd (ws:List Nat) (i:Nat):Nat:=ws[i]?.getD 0
def bkAt (ws:List Nat) (i:Nat):Bk:={ ar (wd ws i) with at_:=(i:Nat),next:=wd ws (i+1) }
def stands (ws:List Nat) (i:Nat):Bool:=aB (wd ws i)&&decide ((ar (wd ws i)).size<=(ws.length:Int)-i)
def szAt (ws:List Nat) (i:Nat):Nat:=wd ws i/65536%65536
def nv (ws:List Nat):Nat->Nat->Option (List Bk)
 | 0,i=>if ws.length<=i then some [] else none
 | f+1,i=>if ws.length<=i then some [] else if stands ws i then (nv ws f (i+szAt ws i)).map (bkAt ws i :: ·) else none
def blocks (ws:List Nat) (i:Nat):Option (List Bk):=nv ws ws.length i
theorem aH(h:stands ws i=true):2<=szAt ws i/\szAt ws i%2=0/\i+szAt ws i<=ws.length:=by unfold stands aB at h;simp only[kqt,kzc] at h;obtain⟨⟨b,_⟩,c⟩:=h;have a:=(bA _).1 b;simp only[ar] at c a;unfold szAt;omega
theorem oO{f:Nat}(h:ws.length-i<=f):∀ {g:Nat},ws.length-i<=g->nv ws f i=nv ws g i:=by
 induction f generalizing i with
 | zero =>
  intro g _;cases g with
  | zero=>rfl
  | succ g=>simp only[nv];rw[if_pos (by omega),if_pos (by omega)]
 | succ f ih =>
  intro g hg;cases g with
  | zero=>simp only[nv];rw[if_pos (by omega),if_pos (by omega)]
  | succ g =>
   simp only[nv];split
   .rfl
   split
   .rename_i hs;have:=aH hs;rw[ih (i:=i+szAt ws i) (by omega) (g:=g) (by omega)]
   rfl
theorem aD(h:ws.length<=i):blocks ws i=some []:=by
 unfold blocks;cases a:ws.length with
 | zero=>simp[nv,a]
 | succ n=>rw[nv,if_pos (by omega)]
theorem aL(h:i<ws.length)(hs:stands ws i=true):blocks ws i=(blocks ws (i+szAt ws i)).map (bkAt ws i :: ·):=by have hsz:=aH hs;unfold blocks;rw[oO (f:=ws.length) (i:=i) (by omega) (g:=ws.length+1) (by omega),nv,if_neg (by omega),if_pos hs]
theorem db(h:i<ws.length)(hs:stands ws i=false):blocks ws i=none:=by unfold blocks;rw[oO (f:=ws.length) (i:=i) (by omega) (g:=ws.length+1) (by omega),nv,if_neg (by omega),if_neg (by rw[hs];exact Bool.false_ne_true)]
def dl (a:Nat):List Nat:=(List.range (a%256)).map λi=>a/4 ^ (i+4)%4
def mz:List Nat->Nat->Nat
 | [],_=>0
 | k::l,j=>k*4 ^ j+mz l (j+1)
def gV (l:List Nat):Nat:=l.length+mz l 4
def dE (l:List Nat):Bool:=l.all λk=>decide (1<=k)&&decide (k<=3)
def cY (l:List Nat):Int:=if 8<l.length then 4 else if dE l=true then 0 else 8
def aY (n:Nat):Nat:=2+(n+1)/2*2
def ch (a b:Nat):Bool:=(decide (a%256<=8)&&dE (dl a))&&(gV (dl a)==a&&gM a==b)
theorem eY(a:Nat):(dl a).length=a%256:=by simp[dl]
theorem pW(a i:Nat)(h:i<a%256):(dl a)[i]? = some (a/4 ^ (i+4)%4):=by simp[dl,h]
theorem ny(a b:List Nat)(j:Nat):mz (a++b) j=mz a j+mz b (j+a.length):=by
 induction a generalizing j with
 | nil=>simp[mz]
 | cons k a ih=>simp only[kzq,mz,ih,kq2];rw[show j+1+a.length=j+(a.length+1) by omega];omega
theorem s6(l:List Nat)(j:Nat)(h:∀k∈l,k<=3):mz l j+4 ^ j<=4 ^ (j+l.length):=by
 induction l generalizing j with
 | nil=>simp[mz]
 | cons k l ih =>have b:=ih (j+1) (λk c=>h k (by simp[c]));have a:=h k (by simp);simp only[mz,kq2];rw[show j+(l.length+1)=j+1+l.length by omega];have h3:k*4 ^ j<=3*4 ^ j:=kxs _ a;rw[kji] at b;omega
theorem cU(l:List Nat):dE l=true↔∀k∈l,1<=k/\k<=3:=by simp[dE]
theorem AQ{l:List Nat}(hk:k<l.length)(h:l[k]<1\/3<l[k]):dE l=false:=by
 cases a:dE l with
 | false=>rfl
 | true=>have:=(cU l).1 a l[k] (kqp hk);omega
theorem sW{l:List Nat}(h:8<l.length):cY l=4:=by simp[cY,h]
theorem lK{l:List Nat}(h:l.length<=8)(hk:dE l=false):cY l=8:=by
 have:¬ 8<l.length:=by omega
 simp[cY,this,hk]
theorem ju{l:List Nat}(h:l.length<=8)(hk:dE l=true):cY l=0:=by
 have:¬ 8<l.length:=by omega
 simp[cY,this,hk]
theorem kf{l:List Nat}(h:cY l=0):l.length<=8/\dE l=true:=by
 unfold cY at h;split at h
 .simp at h
 split at h
 .exact ⟨by omega,by assumption⟩
 simp at h
theorem yh{l:List Nat}(h:l.length<=8)(hk:dE l=true):gV l<16777216:=by
 have h1:=s6 l 4 (λk a=>((cU l).1 hk k a).2);have h2:4 ^ (4+l.length)<=4 ^ 12:=kx9 (by omega) (by omega);have h3:(4:Nat) ^ 12=16777216:=by decide
 have h4:(4:Nat) ^ 4=256:=by decide
 unfold gV;omega
def tyA (b:Bk):Nat:=96+2*b.typ.toNat
def cZ (ws:List Nat) (b:Bk):Bool:=ch (wd ws (tyA b)) (wd ws (tyA b+1))&&b.size==((aY (wd ws (tyA b)%256):Nat):Int)
def dC (ws:List Nat) (b:Bk):Bool:=b.kind != 1||cZ ws b
def bU (ws:List Nat):List Bk->Int->Bool
 | [],_=>true
 | b::l,s=>dC ws b&&(if aV b then ((b.next:Int)==s)&&bU ws l (s+b.size) else bU ws l s)
def az:List Bk->Int->List (Int × Int)
 | [],_=>[]
 | b::l,s=>if aV b then (b.at_,s)::az l (s+b.size) else az l s
theorem lZ(ws:List Nat)(a b:List Bk)(s:Int):bU ws (a++b) s=(bU ws a s&&bU ws b (aK a s)):=by
 induction a generalizing s with
 | nil=>simp[bU,aK]
 | cons x a ih =>
  simp only[kzq,bU,aK];split
  .rw[ih];simp only[Bool.and_assoc]
  rw[ih];simp only[Bool.and_assoc]
theorem fB(a b:List Bk)(s:Int):az (a++b) s=az a s++az b (aK a s):=by
 induction a generalizing s with
 | nil=>rfl
 | cons x a ih=>simp only[kzq,az,aK];split<;>simp[ih]
theorem oo(h:k<l.length)(s:Int):bU ws (l.take (k+1)) s=(bU ws (l.take k) s&&(dC ws l[k]&&(!aV l[k]||(l[k].next:Int)==aK (l.take k) s))):=by rw[kqo h,lZ];simp only[bU];cases aV l[k]<;>simp
theorem wg(h:k<l.length)(s:Int):az (l.take (k+1)) s=az (l.take k) s++(if aV l[k] then [(l[k].at_,aK (l.take k) s)] else []):=by rw[kqo h,fB];simp only[az]
theorem oi(h:bU ws l s=true)(k:Nat):bU ws (l.take k) s=true:=by rw[<-kxg k l,lZ,kqt] at h;exact h.1
theorem rT(h:bU ws (l.take k) s=false):bU ws l s=false:=by
 cases a:bU ws l s with
 | false=>rfl
 | true=>rw[oi a k] at h;cases h
theorem DS(h:bU ws l s=true)(hk:k<l.length):dC ws l[k]=true/\(aV l[k]=true->(l[k].next:Int)=aK (l.take k) s):=by
 have a:=oi h (k+1);rw[oo hk] at a;simp only[kqt,kxv,kx2,kqw] at a;exact⟨a.2.1,λc=>by
  rcases a.2.2 with b|b
  .rw[c] at b;cases b
  exact b⟩
theorem dU(P:Nat->List Bk->Prop)(h0:∀i,ws.length<=i->P i [])(h1:∀i l,i<ws.length->stands ws i=true->blocks ws (i+szAt ws i)=some l->P (i+szAt ws i) l->P i (bkAt ws i::l)):
 ∀i l,blocks ws i=some l->P i l:=by
 have c:∀n i l,ws.length-i<=n->blocks ws i=some l->P i l:=by
  intro n
  induction n with
  | zero =>intro i l e h;rw[aD (by omega)] at h;cases h;exact h0 i (by omega)
  | succ n ih =>
   intro i l e h;by_cases d:ws.length<=i
   .rw[aD d] at h;cases h;exact h0 i d
   cases a:stands ws i with
   | false=>rw[db (by omega) a] at h;cases h
   | true =>
    have hsz:=aH a;rw[aL (by omega) a] at h;cases b:blocks ws (i+szAt ws i) with
    | none=>rw[b] at h;cases h
    | some l' =>rw[b] at h;simp only[kzz,Option.some.injEq] at h;subst h;exact h1 i l' (by omega) a b (ih _ _ (by omega) b)
 exact λi l h=>c _ i l (kqd _) h
theorem ae(ws:List Nat)(i:Nat):(bkAt ws i).at_=(i:Int):=rfl
theorem bq(ws:List Nat)(i:Nat):(bkAt ws i).size=((szAt ws i:Nat):Int):=rfl
theorem fG(h:stands ws i=true):iY (ar (wd ws i))=true:=by unfold stands aB at h;simp only[kqt] at h;exact h.1.1
theorem iH(b:Bk)(l:List Bk)(k:Nat):gk (b::l) (k+1)=gk l k:=by simp[gk]
theorem nh(b:Bk)(l:List Bk):gk (b::l) 0=b:=rfl
theorem AX(hn:ws.length<=2048)(h:stands ws i=true)(h1:128<=i)(h2:i%2=0):Cr (bkAt ws i)=true:=by have h3:=(bA _).1 (fG h);have h4:=aH h;rw[eD];have a:(bkAt ws i).kind=(ar (wd ws i)).kind:=rfl;have e2:(ar (wd ws i)).size=((szAt ws i:Nat):Int):=rfl;rw[ae,bq,a];omega
theorem bG(hn:ws.length<=2048):∀i l,blocks ws i=some l->128<=i->i%2=0->i<=ws.length ->
 2*l.length+i<=ws.length/\∀k,k<l.length->Cr (gk l k)=true/\(k=0->(gk l k).at_=(i:Int))/\(0<k->(gk l k).at_=(gk l (k-1)).at_+(gk l (k-1)).size):=by
 refine dU _ (λi _ _ _ _=>⟨by simp;omega,λk a=>by simp at a⟩) (λi l hi c hb n j f _=>?_);have b:=aH c;obtain⟨h3,m⟩:=n (by omega) (by omega) b.2.2;refine⟨by rw[kq2];omega,λk a=>?_⟩;cases k with
 | zero=>exact⟨AX hn c j f,λ_=>rfl,λh=>absurd h (by omega)⟩
 | succ k =>
  rw[kq2] at a;obtain⟨d,g,e⟩:=m k (by omega);rw[iH];refine⟨d,λh=>absurd h (by omega),λ_=>?_⟩;rw[Nat.add_sub_cancel];cases k with
  | zero=>rw[nh,g rfl,ae,bq];omega
  | succ k=>rw[iH];exact e (by omega)
theorem oP(hn:ws.length<=2048)(h:blocks ws i=some l)(h1:128<=i)(h2:i%2=0)(h3:i<=ws.length):b8 l=0:=by
 obtain⟨h4,e⟩:=bG hn i l h h1 h2 h3;refine qD (by omega) ?_;have a:∀k,k<=l.length->cX l k=true:=by
  intro k
  induction k with
  | zero=>intro _;rfl
  | succ k ih =>
   intro hk;obtain⟨c,g2,d⟩:=e k (by omega);refine pe (ih (by omega)) c ?_;rcases kx6 k with b|b
   .exact .inl b
   right;obtain⟨m,rfl⟩:∃m,k=m+1:=⟨k-1,by omega⟩;exact d b
 exact a _ (kqd _)
theorem cp(h:blocks ws i=some l)(hi:i<ws.length):0<l.length/\gk l 0=bkAt ws i/\stands ws i=true/\blocks ws (i+szAt ws i)=some (l.drop 1):=by
 cases a:stands ws i with
 | false=>rw[db hi a] at h;cases h
 | true =>
  rw[aL hi a] at h;cases b:blocks ws (i+szAt ws i) with
  | none=>rw[b] at h;cases h
  | some l' =>rw[b] at h;simp only[kzz,Option.some.injEq] at h;subst h;exact⟨by simp,rfl,rfl,by simp⟩
theorem kP(hn:ws.length<=2048)(h:blocks ws i=some l)(h1:128<=i)(h2:i%2=0)(h3:i<=ws.length)(hs:128<=s)(hs2:s%2=0)(hs3:s<=(i:Int)):ew l s=0:=by
 refine Br (oP hn h h1 h2 h3) ⟨hs,?_,hs2⟩;unfold nO;split
 .omega
 rename_i hl;have:=(bG hn i l h h1 h2 h3).2 0 (by omega);rw[this.2.1 rfl];exact hs3
theorem ja:∀ {l:List Bk} {s:Int} {p:Nat},p<(az l s).length->∃k,∃h:k<l.length,aV l[k]=true/\(az l s)[p]? = some (l[k].at_,aK (l.take k) s)/\(az (l.take k) s).length=p:=by
 intro l
 induction l with
 | nil=>intro s p h;simp[az] at h
 | cons b l ih =>
  intro s p h;cases a:aV b with
  | true =>
   simp only[az,a,if_true] at h |-;cases p with
   | zero=>exact⟨0,by simp,a,by simp[aK],rfl⟩
   | succ p =>
    obtain⟨k,e,d,c,f⟩:=ih (s:=s+b.size) (p:=p) (by simpa using h);refine⟨k+1,by simpa using e,d,?_,?_⟩
    .simp only[List.getElem?_cons_succ,c,kqb,kxp,aK,a,if_true]
    simp only[kxp,az,a,if_true,kq2,f]
  | false =>
   simp only[az,a,kzm,if_false] at h |-;obtain⟨k,e,d,c,f⟩:=ih (s:=s) (p:=p) h;refine⟨k+1,by simpa using e,d,?_,?_⟩
   .simp only[c,kqb,kxp,aK,a,kzm,if_false]
   simp only[kxp,az,a,kzm,if_false,f]
theorem lR(ws:List Nat)(j v i:Nat):wd (ws.set j v) i=if j=i/\j<ws.length then v else wd ws i:=by
 unfold wd;by_cases h:j=i
 .subst h;by_cases a:j<ws.length
  .simp[a]
  simp[a]
 simp[h]
theorem io(ws:List Nat)(v:Nat)(h:j≠i):wd (ws.set j v) i=wd ws i:=by rw[lR,if_neg (λa=>h a.1)]
def nd (j v:Nat) (b:Bk):Bk:=if b.at_+1=(j:Int) then { b with next:=v } else b
theorem lH(v:Nat)(h:j≠i):stands (ws.set j v) i=stands ws i/\szAt (ws.set j v) i=szAt ws i:=by unfold stands szAt;rw[io ws v h,kq4];exact⟨rfl,rfl⟩
theorem um{v:Nat}(h:j≠i)(hj:j<ws.length):bkAt (ws.set j v) i=nd j v (bkAt ws i):=by
 unfold bkAt nd;rw[io ws v h,lR];by_cases e:j=i+1
 .rw[if_pos ⟨e,hj⟩,if_pos (by dsimp only;omega)]
 rw[if_neg (λa=>e a.1),if_neg (by dsimp only;omega)]
theorem wi{v:Nat}(hj:j%2=1)(hl:j<ws.length):∀i,i%2=0->blocks (ws.set j v) i=(blocks ws i).map (List.map (nd j v)):=by
 have b:∀n i,ws.length-i<=n->i%2=0->blocks (ws.set j v) i=(blocks ws i).map (List.map (nd j v)):=by
  intro n
  induction n with
  | zero=>intro i d _;rw[aD (by rw[kq4];omega),aD (by omega)];rfl
  | succ n ih =>
   intro i d h2;by_cases hi:ws.length<=i
   .rw[aD (by rw[kq4];omega),aD (by omega)];rfl
   obtain⟨c,e⟩:=lH (ws:=ws) (j:=j) (i:=i) v (by omega);cases a:stands ws i with
   | false=>rw[db (by rw[kq4];omega) (by rw[c,a]),db (by omega) a];rfl
   | true =>have hsz:=aH a;rw[aL (by rw[kq4];omega) (by rw[c,a]),aL (by omega) a,e,ih _ (by omega) (by omega),um (by omega) hl];cases blocks ws (i+szAt ws i)<;>rfl
 exact λi=>b _ i (kqd _)
theorem lk(h:b8 l=0){m:Nat}(hk:k<l.length)(hm:m<k):(gk l m).at_<(gk l k).at_:=by
 obtain⟨_,a⟩:=dj h
 induction k with
 | zero=>omega
 | succ k ih =>
  have d:=dG a (show k+1<l.length from hk);have h4:=(eD _).1 (dG a (show k<l.length by omega)).1;have e:(gk l (k+1)).at_=(gk l k).at_+(gk l k).size:=by
   rcases d.2 with b|b
   .omega
   exact b
  rcases kq6 m k with c|c
  .have:=ih (by omega) c;omega
  have:m=k:=by omega
  subst this;omega
theorem vF(h:b8 l=0){v:Nat}(hk:k<l.length)(hj:l[k].at_+1=(j:Int)):l.map (nd j v)=l.set k { l[k] with next:=v }:=by
 apply List.ext_getElem (by simp);intro i a h2;have a:i<l.length:=by simpa using a
 rw[List.getElem_map,List.getElem_set];unfold nd;by_cases e:k=i
 .subst e;rw[if_pos hj,if_pos rfl]
 rw[if_neg e];rw[if_neg ?_];intro h3;have e2:(gk l i).at_=(gk l k).at_:=by rw[bN l i a,bN l k hk];omega
 rcases Nat.lt_or_gt_of_ne e with b|b
 .have:=lk h a b;omega
 have:=lk h hk b;omega
theorem vJ{ws':List Nat}(hf:∀b∈l,dC ws' b=dC ws b)(hf2:∀b v,b∈l->dC ws' { b with next:=v }=dC ws b):∀ {s:Int},bU ws l s=true->∀ {k:Nat} (e:k<l.length),aV l[k]=true->∀v:Nat,
 bU ws' (l.set k { l[k] with next:=v }) s=((v:Int)==aK (l.take k) s)/\az (l.set k { l[k] with next:=v }) s=az l s:=by
 induction l with
 | nil=>intro s _ k e;simp at e
 | cons b l ih =>
  intro s h k e d v;have i:=hf b (by simp);have g:=hf2 b v (by simp);have f:∀(l:List Bk),(∀b∈l,dC ws' b=dC ws b)->∀s,bU ws' l s=bU ws l s:=by
   intro l d
   induction l with
   | nil=>intro s;rfl
   | cons c l ih2 =>intro s;simp only[bU];rw[d c (by simp),ih2 (λb a=>d b (by simp[a])),ih2 (λb a=>d b (by simp[a]))]
  cases k with
  | zero =>have d:aV b=true:=d;have n:aV { b with next:=v }=true:=d;simp only[bU,d,if_true,kqt] at h;simp only[kqf,kqc,bU,n,if_true,az,d,List.take_zero,aK,g,h.1,kzr];rw[f l (λb a=>hf b (by simp[a])),h.2.2,Bool.and_true];exact⟨rfl,trivial⟩
  | succ k =>
   have e:k<l.length:=by simpa using e
   have d:aV l[k]=true:=d;cases a:aV b with
   | true =>simp only[bU,a,if_true,kqt] at h;obtain⟨j,m⟩:=ih (λb a=>hf b (by simp[a])) (λb v a=>hf2 b v (by simp[a])) h.2.2 e d v;simp only[kqe,kqb,bU,a,if_true,az,kxp,aK,i,h.1,h.2.1,kzr,j,m];exact⟨trivial,trivial⟩
   | false =>simp only[bU,a,kzm,if_false,kqt] at h;obtain⟨j,m⟩:=ih (λb a=>hf b (by simp[a])) (λb v a=>hf2 b v (by simp[a])) h.2 e d v;simp only[kqe,kqb,bU,a,kzm,if_false,az,kxp,aK,i,h.1,kzr,j,m];exact⟨trivial,trivial⟩
def fT (n:Nat) (f s:Int):Bool:=(f%2 != 0)||((s%2 != 0)||(decide (s<128)||(decide (f<s)||decide ((n:Int)<f))))
def sK (n:Nat):Bool:=decide (256<=n)&&(decide (n<=2048)&&n%8==0)
theorem gu(h:fT n f s=false):f%2=0/\s%2=0/\128<=s/\s<=f/\f<=(n:Int):=by simp only[fT,kzl,kqq,kqh] at h;omega
theorem kA(n:Nat)(f s:Int):fT n f s=true↔¬ (f%2=0/\s%2=0/\128<=s/\s<=f/\f<=(n:Int)):=by
 constructor
 .intro h h2;have:fT n f s=false:=by simp only[fT,kzl,kqq,kqh];omega
  rw[this] at h;cases h
 intro h;cases a:fT n f s with
 | true=>rfl
 | false=>exact absurd (gu a) h
def ls (ws:List Nat) (f s:Int):Int:=match blocks ws f.toNat with
 | none=>50
 | some l=>if bU ws l s=true then 0 else 50
def aW (ws:List Nat) (f s:Int):Int:=if sK ws.length=true then (if fT ws.length f s=true then 2 else ls ws f s) else 8
def ic (ws:List Nat) (f s:Int):List (Int × Int):=if aW ws f s=0 then (match blocks ws f.toNat with | none=>[] | some l=>az l s) else []
theorem bY(h:aW ws f s=0):sK ws.length=true/\fT ws.length f s=false/\∃l,blocks ws f.toNat=some l/\bU ws l s=true/\ic ws f s=az l s:=by
 have b:=h;unfold aW at h;split at h
 .rename_i h1;split at h
  .simp at h
  rename_i h2;unfold ls at h;cases a:blocks ws f.toNat with
  | none=>rw[a] at h;simp at h
  | some l =>
   rw[a] at h;refine⟨h1,by simpa using h2,l,rfl,?_,?_⟩
   .dsimp only at h;split at h
    .assumption
    simp at h
   unfold ic;rw[if_pos b,a]
 simp at h
theorem iB(h1:sK ws.length=true)(h2:fT ws.length f s=false)(h3:blocks ws f.toNat=some l):aW ws f s=if bU ws l s=true then 0 else 50:=by unfold aW ls;rw[if_pos h1,h2,h3];rfl
theorem mE(h:sK n=true):256<=n/\n<=2048/\n%8=0:=by simp[sK] at h;omega
theorem b9 :∀i l,blocks ws i=some l->i%2=0->∀k (h:k<l.length),∃a,l[k]=bkAt ws a/\a%2=0/\i<=a/\a<ws.length/\stands ws a=true/\blocks ws a=some (l.drop k):=by
 refine dU _ (λi _ _ k h=>by simp at h) (λi l c b d o f k h=>?_);have hsz:=aH b;cases k with
 | zero=>exact⟨i,rfl,f,kqd _,c,b,by rw[aL c b,d];rfl⟩
 | succ k =>obtain⟨a,n,m,h5,j,g,e⟩:=o (by omega) k (by simpa using h);exact⟨a,n,m,by omega,j,g,e⟩
theorem Fg{w:Nat}(h:iY (ar w)=true)(hk:b.kind=(ar w).kind)(ht:b.typ=(ar w).typ)(h1:b.kind=1):tyA b+1<128:=by have:=(bA _).1 h;rw[<-hk,<-ht] at this;unfold tyA;omega
theorem DO{v:Nat}(hj:128<=j){a:Nat}(hs:stands ws a=true)(u:Nat):dC (ws.set j v) { bkAt ws a with next:=u }=dC ws (bkAt ws a):=by
 have f:=fG hs;unfold dC;show ((bkAt ws a).kind != 1||cZ (ws.set j v) { bkAt ws a with next:=u })=_;by_cases c:(bkAt ws a).kind=1
 .have h2:=Fg (b:=bkAt ws a) f rfl rfl c;have d:wd (ws.set j v) (tyA (bkAt ws a))=wd ws (tyA (bkAt ws a)):=io ws v (by omega);have e:wd (ws.set j v) (tyA (bkAt ws a)+1)=wd ws (tyA (bkAt ws a)+1):=io ws v (by omega);unfold cZ;show (_||(ch (wd (ws.set j v) (tyA (bkAt ws a))) (wd (ws.set j v) (tyA (bkAt ws a)+1))&&(bkAt ws a).size==((aY (wd (ws.set j v) (tyA (bkAt ws a))%256):Nat):Int)))=_;rw[d,e]
 have:((bkAt ws a).kind != 1)=true:=by rw[kqv];exact c
 rw[this,kk3,kk3]
theorem vR(h:aW ws f s=0){p:Nat}(hp:p<(ic ws f s).length):∃a t:Nat,(ic ws f s)[p]? = some ((a:Int),(t:Int))/\128<=a/\a+1<ws.length/\wd ws (a+1)=t/\t<=2048 /\
 ∀v,(v=t->aW (ws.set (a+1) v) f s=0)/\(v≠t->aW (ws.set (a+1) v) f s=50):=by
 obtain⟨E,H,l,y,F,P⟩:=bY h;obtain⟨a1,O,M,a4,a5⟩:=gu H;have g:=mE E;rw[P] at hp |-;obtain⟨k,r,D,K,-⟩:=ja hp;obtain⟨a,e,b1,b2,b3,N,-⟩:=b9 _ _ y (by omega) k r;have C:=kP (i:=f.toNat) g.2.1 y (by omega) (by omega) (by omega) (s:=s) M O (by omega);obtain⟨w,B,A,hs3⟩:=eP C;have hbd:=kx w (kz7 r) B A;have x:=(DS F r).2 D;have hsz:=aH N;have d:a+1<ws.length:=by omega
 have n:wd ws (a+1)=l[k].next:=by rw[e];rfl
 have o:l[k].at_=(a:Int):=by rw[e];rfl
 refine⟨a,l[k].next,by rw[K,o,x],by omega,d,n,by omega,λv=>?_⟩;have q:=wi (ws:=ws) (j:=a+1) (v:=v) (by omega) d f.toNat (by omega);rw[y,kzz,vF w r (by rw[o];omega)] at q;have c:∀b∈l,∀u,dC (ws.set (a+1) v) { b with next:=u }=dC ws b:=by intro b g u;obtain⟨m,L,rfl⟩:=kqz g;obtain⟨a',J,-,-,-,z,-⟩:=b9 _ _ y (by omega) m L;rw[J];exact DO (by omega) z u
 obtain⟨I,-⟩:=vJ (ws:=ws) (ws':=ws.set (a+1) v) (λb g=>by have:=c b g b.next;exact this) (λb u g=>c b g u) F r D v;rw[iB (by rw[kq4];exact E) (by rw[kq4];exact H) q,I,<-x];constructor
 .intro G;subst G;simp
 intro G;have:((v:Int)==(l[k].next:Int))=false:=by rw[kqi];omega
 rw[this];simp
def eN:List Nat->Nat->List Nat->List Nat
 | ws,_,[]=>ws
 | ws,t,v::l=>eN (ws.set t v) (t+1) l
theorem lI(l:List Nat):∀(ws:List Nat) (t:Nat),(eN ws t l).length=ws.length:=by
 induction l with
 | nil=>intro ws t;rfl
 | cons v l ih=>intro ws t;simp only[eN,ih,kq4]
theorem rC(l:List Nat):∀(ws:List Nat) (t i:Nat),t+l.length<=ws.length->wd (eN ws t l) i=if t<=i/\i<t+l.length then l[i-t]?.getD 0 else wd ws i:=by
 induction l with
 | nil=>intro ws t i _;simp only[eN,kxk];rw[if_neg (by omega)]
 | cons v l ih =>
  intro ws t i c;rw[kq2] at c;simp only[eN,kq2];rw[ih (ws.set t v) (t+1) i (by rw[kq4];omega),lR];by_cases b:t=i
  .subst b;rw[if_neg (by omega),if_pos ⟨rfl,by omega⟩,if_pos (by omega)];simp
  by_cases a:t+1<=i/\i<t+1+l.length
  .rw[if_pos a,if_pos (by omega)];obtain⟨m,rfl⟩:∃m,i=t+1+m:=⟨i-(t+1),by omega⟩;rw[show t+1+m-(t+1)=m by omega,show t+1+m-t=m+1 by omega];simp
  rw[if_neg a,if_neg (λh=>b h.1),if_neg (by omega)]
theorem dP{xs:List Nat}(hn:xs.length=ws.length):∀i,(∀j,i<=j->wd xs j=wd ws j)->blocks xs i=blocks ws i:=by
 have c:∀n i,ws.length-i<=n->(∀j,i<=j->wd xs j=wd ws j)->blocks xs i=blocks ws i:=by
  intro n
  induction n with
  | zero=>intro i h _;rw[aD (by omega),aD (by omega)]
  | succ n ih =>
   intro i h b;by_cases hi:ws.length<=i
   .rw[aD (by omega),aD (by omega)]
   have d:stands xs i=stands ws i:=by unfold stands;rw[b i (kqd _),hn]
   have e:szAt xs i=szAt ws i:=by unfold szAt;rw[b i (kqd _)]
   have f:bkAt xs i=bkAt ws i:=by unfold bkAt;rw[b i (kqd _),b (i+1) (by omega)]
   cases a:stands ws i with
   | false=>rw[db (by omega) (by rw[d,a]),db (by omega) a]
   | true =>have hsz:=aH a;rw[aL (by omega) (by rw[d,a]),aL (by omega) a,e,f,ih _ (by omega) (λj hj=>b j (by omega))]
 exact λi=>c _ i (kqd _)
theorem r8{xs:List Nat}(hw:∀j,j<128->wd xs j=wd ws j):∀ {l:List Bk},(∀b∈l,b.kind=1->tyA b+1<128)->∀s,bU xs l s=bU ws l s:=by
 intro l
 induction l with
 | nil=>intro _ s;rfl
 | cons b l ih =>
  intro h s;have e:dC xs b=dC ws b:=by
   unfold dC;by_cases c:b.kind=1
   .have h2:=h b (by simp) c;unfold cZ;rw[hw _ (by omega),hw _ (by omega)]
   have:(b.kind != 1)=true:=by rw[kqv];exact c
   rw[this,kk3,kk3]
  simp only[bU,e];rw[ih (λb a=>h b (by simp[a])),ih (λb a=>h b (by simp[a]))]
theorem je(h:blocks ws i=some l)(h2:i%2=0):∀b∈l,b.kind=1->tyA b+1<128:=by intro b d c;obtain⟨m,g,rfl⟩:=kqz d;obtain⟨a,e,-,-,-,f,-⟩:=b9 _ _ h h2 m g;rw[e] at c |-;exact Fg (fG f) rfl rfl c
def dK (ws:List Nat) (f t:Int):Int:=if aW ws f t=0 then (match blocks ws f.toNat with | some (b::_)=>if b.mark then 0 else 6 | _=>6) else aW ws f t
def dH (ws:List Nat) (f:Nat):List Nat:=(List.range (szAt ws f)).map λi=>if i=0 then cR { ar (wd ws f) with mark:=false } else if i=1 then 0 else wd ws (f+i)
theorem wv{t:Int}(h:dK ws f t=0):aW ws f t=0/\∃a:Nat,f=(a:Int)/\a%2=0/\128<=a/\a<ws.length/\stands ws a=true/\aV (bkAt ws a)=true/\∃l,blocks ws a=some (bkAt ws a::l)/\blocks ws (a+szAt ws a)=some l:=by
 unfold dK at h;split at h
 .rename_i h0;refine⟨h0,?_⟩;obtain⟨h1,p,l,d,h4,h5⟩:=bY h0;obtain⟨a1,a2,a3,a4,a5⟩:=gu p;rw[d] at h;cases l with
  | nil=>simp at h
  | cons b l =>
   dsimp only at h;split at h
   .rename_i hm;refine⟨f.toNat,by omega,by omega,by omega,?_,?_⟩
    .rcases kq6 f.toNat ws.length with c|c
     .exact c
     rw[aD c] at d;simp at d
    have i:f.toNat<ws.length:=by
     rcases kq6 f.toNat ws.length with c|c
     .exact c
     rw[aD c] at d;simp at d
    obtain⟨_,g,k,n⟩:=cp d i;have g:b=bkAt ws f.toNat:=g;subst g;refine⟨k,?_,l,d,by simpa using n⟩;have m:=(bA _).1 (fG k);have j:(ar (wd ws f.toNat)).mark=true:=hm;have o:(bkAt ws f.toNat).kind=1:=by
     rcases m.2 with e|e
     .exact e.1
     rw[j] at e;exact absurd e.2.2.1 (by simp)
    simp[aV,o];exact hm
   simp at h
 rename_i h0;exact absurd h h0
theorem fZ(ws:List Nat)(f:Nat):(dH ws f).length=szAt ws f:=by simp[dH]
theorem kk(ws:List Nat)(f i:Nat)(h:i<szAt ws f):(dH ws f)[i]? = some (if i=0 then cR { ar (wd ws f) with mark:=false } else if i=1 then 0 else wd ws (f+i)):=by simp[dH,h]
theorem zv{w:Nat}(h:iY (ar w)=true)(hk:(ar w).kind=1):iY { ar w with mark:=false }=true:=by
 have:=(bA _).1 h;rw[bA];show _/\((ar w).kind=1/\_\/_);rcases this.2 with a|a
 .exact ⟨this.1,.inl a⟩
 rw[hk] at a;exact absurd a.1 (by omega)
theorem gb{t:Int}(h:dK ws f t=0):∃a u n:Nat,f=(a:Int)/\t=(u:Int)/\n=szAt ws a/\2<=n/\n<=10/\128<=u/\u<=a/\a+n<=ws.length/\stands ws a=true/\aV (bkAt ws a)=true /\
 (∃l,blocks ws a=some (bkAt ws a::l)/\blocks ws (a+n)=some l/\blocks (eN ws u (dH ws a)) (a+n)=some l/\aW (eN ws u (dH ws a)) ((a+n:Nat):Int) ((u+n:Nat):Int)=0 /\
  ic ws f t=((a:Int),(u:Int))::ic (eN ws u (dH ws a)) ((a+n:Nat):Int) ((u+n:Nat):Int)) /\
 wd (eN ws u (dH ws a)) u=cR { ar (wd ws a) with mark:=false }/\iY { ar (wd ws a) with mark:=false }=true:=by
 obtain⟨J,a,rfl,I,c2,c3,r,q,l,x,E⟩:=wv h;obtain⟨A,L,l',C,B,M⟩:=bY J;obtain⟨a1,a2,a3,a4,a5⟩:=gu L;have D:=mE A;rw[kqj,x] at C;cases C;obtain⟨u,rfl⟩:=kq1 (show 0<=t by omega);have p:=aH r;have F:(bkAt ws a).kind=1:=by simp[aV] at q;exact q.1
 have y:=(bA _).1 (fG r);have o:szAt ws a<=10:=by
  have e1:(ar (wd ws a)).size=((szAt ws a:Nat):Int):=rfl;have s:(ar (wd ws a)).kind=1:=F;rcases y.2 with w|w
  .omega
  rw[s] at w;exact absurd w.1 (by omega)
 have v:=zv (fG r) F;have d:=fZ ws a;have k:∀i,wd (eN ws u (dH ws a)) i=if u<=i/\i<u+szAt ws a then (dH ws a)[i-u]?.getD 0 else wd ws i:=by intro i;rw[rC _ _ _ _ (by rw[d];omega),d]
 have c:∀j,a+szAt ws a<=j->wd (eN ws u (dH ws a)) j=wd ws j:=λj K=>by rw[k,if_neg (by omega)]
 have g:blocks (eN ws u (dH ws a)) (a+szAt ws a)=some l:=by rw[dP (lI _ _ _) _ c,E]
 have z:∀j,j<128->wd (eN ws u (dH ws a)) j=wd ws j:=λj K=>by rw[k,if_neg (by omega)]
 have G:bU ws l ((u:Int)+(szAt ws a:Nat))=true:=by simp only[bU,q,if_true,kqt] at B;exact B.2.2
 have H:bU (eN ws u (dH ws a)) l ((u+szAt ws a:Nat):Int)=true:=by
  rw[r8 z (λb D=>je x I b (by simp[D]))]
  simpa using G
 have m:aW (eN ws u (dH ws a)) ((a+szAt ws a:Nat):Int) ((u+szAt ws a:Nat):Int)=0:=by
  rw[iB (by rw[lI];exact A) ?_ (by rw[kqj];exact g),if_pos H];rw[lI];cases N:fT ws.length ((a+szAt ws a:Nat):Int) ((u+szAt ws a:Nat):Int) with
  | false=>rfl
  | true=>exact absurd (by omega) ((kA _ _ _).1 N)
 refine⟨a,u,szAt ws a,rfl,rfl,rfl,p.1,o,by omega,by omega,p.2.2,r,q,⟨l,x,E,g,m,?_⟩,?_,v⟩
 .rw[M];have e:ic (eN ws u (dH ws a)) ((a+szAt ws a:Nat):Int) ((u+szAt ws a:Nat):Int)=az l ((u+szAt ws a:Nat):Int):=by unfold ic;rw[if_pos m,kqj,g]
  rw[e];simp only[az,q,if_true,ae,bq];simp
 rw[k,if_pos (by omega),kvm,kk _ _ _ (by omega),kq9,if_pos rfl]
def bv (b:Bk) (s:Int):Nat:=if aV b then s.toNat else 0
def eU (b:Bk) (s:Int):Int:=if aV b then s+b.size else s
def aQ:List Bk->Int->List En
 | [],_=>[]
 | b::l,s=>(if b.kind=1/\b.next≠bv b s then [⟨b.at_+1,bv b s⟩] else [])++aQ l (eU b s)
def fwB:List Bk->Int->List Bk
 | [],_=>[]
 | b::l,s=>(if b.kind=1 then { b with next:=bv b s } else b)::fwB l (eU b s)
def am:List Nat->List En->List Nat
 | ws,[]=>ws
 | ws,e::l=>am (if 0<=e.a/\e.a<(ws.length:Int) then ws.set e.a.toNat e.v else ws) l
theorem ax(l:List En):∀ws:List Nat,(am ws l).length=ws.length:=by
 induction l with
 | nil=>intro ws;rfl
 | cons e l ih=>intro ws;simp only[am,ih];split<;>simp
theorem eI(a b:List En):∀ws:List Nat,am ws (a++b)=am (am ws a) b:=by
 induction a with
 | nil=>intro ws;rfl
 | cons e a ih=>intro ws;simp only[kzq,am,ih]
theorem aP(l:List En):∀(ws:List Nat) (i:Nat),(∀e∈l,e.a≠(i:Int))->wd (am ws l) i=wd ws i:=by
 induction l with
 | nil=>intro ws i _;rfl
 | cons e l ih =>
  intro ws i h;simp only[am];rw[ih _ i (λx b=>h x (by simp[b]))];split
  .rename_i hb;exact io ws _ (by have:=h e (by simp);omega)
  rfl
theorem rY(a b:List Bk):∀s,aQ (a++b) s=aQ a s++aQ b (aK a s):=by
 induction a with
 | nil=>intro s;rfl
 | cons x a ih =>intro s;simp only[kzq,aQ,ih,aK,eU,kxr];cases aV x<;>simp
theorem pZ :∀i l,blocks ws i=some l->∀s,∀e∈aQ l s,(i:Int)+1<=e.a/\e.a<(ws.length:Int):=by
 refine dU _ (λi _ s e h=>by simp[aQ] at h) (λi l hi b hb c s e h=>?_);have hsz:=aH b;simp only[aQ,kz1] at h;rcases h with h|h
 .split at h
  .simp only[kqx,kzf,or_false] at h;subst h;show (i:Int)+1<=(bkAt ws i).at_+1/\(bkAt ws i).at_+1<_;rw[ae];omega
  simp at h
 have:=c _ e h;omega
theorem qs{v:Nat}(h:i+1<ws.length):bkAt (ws.set (i+1) v) i={ bkAt ws i with next:=v }:=by rw[um (by omega) h];unfold nd;rw[if_pos (by rw[ae];omega)]
theorem sh{v:Nat}(h:b.next=v):{ b with next:=v }=b:=by subst h;rfl
theorem sE:∀n (ws:List Nat) (i:Nat) (l:List Bk),ws.length-i<=n->blocks ws i=some l->∀s,blocks (am ws (aQ l s)) i=some (fwB l s)/\∀j,j<=i->wd (am ws (aQ l s)) j=wd ws j:=by
 intro n
 induction n with
 | zero =>intro ws i l C h s;rw[aD (by omega)] at h;cases h;exact⟨by simp only[aQ,am,fwB];exact aD (by omega),λj _=>rfl⟩
 | succ n ih =>
  intro ws i l C h s;by_cases c:ws.length<=i
  .rw[aD c] at h;cases h;exact⟨by simp only[aQ,am,fwB];exact aD c,λj _=>rfl⟩
  have c:i<ws.length:=by omega
  cases g:stands ws i with
  | false=>rw[db c g] at h;cases h
  | true =>
   have hsz:=aH g;rw[aL c g] at h;cases p:blocks ws (i+szAt ws i) with
   | none=>rw[p] at h;cases h
   | some l' =>
    rw[p] at h;simp only[kzz,Option.some.injEq] at h;subst h;obtain⟨a,t,b,o,u,d,e⟩:∃a,am ws (aQ (bkAt ws i::l') s)=am a (aQ l' (eU (bkAt ws i) s))/\a.length=ws.length/\bkAt a i=(if (bkAt ws i).kind=1 then { bkAt ws i with next:=bv (bkAt ws i) s } else bkAt ws i)/\stands a i=stands ws i/\szAt a i=szAt ws i/\∀j,j≠i+1->wd a j=wd ws j:=by
     by_cases f:(bkAt ws i).kind=1/\(bkAt ws i).next≠bv (bkAt ws i) s
     .refine ⟨ws.set (i+1) (bv (bkAt ws i) s),?_,by simp,?_,(lH _ (by omega)).1,(lH _ (by omega)).2,λj w=>io ws _ (by omega)⟩
      .simp only[aQ];rw[if_pos f,eI];simp only[am];rw[if_pos (by rw[ae];omega),ae,show ((i:Int)+1).toNat=i+1 by omega]
      rw[qs (by omega),if_pos f.1]
     refine⟨ws,?_,rfl,?_,rfl,rfl,λj _=>rfl⟩
     .simp only[aQ];rw[if_neg f,kz2]
     split
     .rename_i hk;have:(bkAt ws i).next=bv (bkAt ws i) s:=by
       rcases Nat.decEq (bkAt ws i).next (bv (bkAt ws i) s) with m|m
       .exact absurd ⟨hk,m⟩ f
       exact m
      exact (sh this).symm
     rfl
    have r:blocks a (i+szAt ws i)=some l':=by rw[dP b _ (λj w=>e j (by omega)),p]
    obtain⟨v,k⟩:=ih a (i+szAt ws i) l' (by omega) r (eU (bkAt ws i) s);rw[t];obtain⟨E,x⟩:=xq (aQ l' (eU (bkAt ws i) s));rw[x] at v k |-;have q:wd (am a E) i=wd a i:=k i (by omega);have y:wd (am a E) (i+1)=wd a (i+1):=k (i+1) (by omega);have B:stands (am a E) i=stands a i:=by unfold stands;rw[q,ax]
    have z:szAt (am a E) i=szAt a i:=by unfold szAt;rw[q]
    have A:bkAt (am a E) i=bkAt a i:=by unfold bkAt;rw[q,y]
    refine⟨?_,λj w=>by rw[k j (by omega)];exact e j (by omega)⟩;rw[aL (by rw[ax,b];exact c) (by rw[B,u,g]),z,A,d,v,o];rfl
theorem Ea :∀ {s:Int},aK (fwB l s) s=aK l s/\az (fwB l s) s=az l s/\(fwB l s).map (λb=>(b.at_,b.size,b.kind,b.mark))=l.map (λb=>(b.at_,b.size,b.kind,b.mark)):=by
 induction l with
 | nil=>intro s;exact⟨rfl,rfl,rfl⟩
 | cons b l ih =>
  intro s;have e:aV (if b.kind=1 then { b with next:=bv b s } else b)=aV b:=by split<;>rfl
  have g:(if b.kind=1 then { b with next:=bv b s } else b).size=b.size:=by split<;>rfl
  have f:(if b.kind=1 then { b with next:=bv b s } else b).at_=b.at_:=by split<;>rfl
  have i:(if b.kind=1 then { b with next:=bv b s } else b).kind=b.kind:=by split<;>rfl
  have h:(if b.kind=1 then { b with next:=bv b s } else b).mark=b.mark:=by split<;>rfl
  simp only[fwB,aK,az,kxz,e,g,f,i,h];unfold eU;split
  .obtain ⟨d,c,a⟩:=ih (s:=s+b.size);rw[d,c,a];exact⟨rfl,rfl,rfl⟩
  obtain⟨d,c,a⟩:=ih (s:=s);rw[d,c,a];exact⟨rfl,rfl,rfl⟩
end Go.Proofs.YtpcajamacpbjcaaGreat
