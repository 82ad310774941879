/- Texts laid together: Base BrkP BrkQ BrkX HeapP KindP FwdP FwdQ FwdR SldP FwbP. -/
import Derived.Test.YtpcajamacpbjcaaGreatRows
import Derived.WalkKit
import Derived.WalkSpells
import Derived.WalkLawsBesides
import Derived.Deep.QuietTactic
import Derived.BigQuiet
import Derived.Lib.Hide
import Derived.Deep.AppendLies
import Derived.Deep.OwnRows
import Derived.Deep.Cut
import Derived.Deep.Draws
import Derived.Deep.LoopGhost
import Derived.Deep.RegionWith
import Derived.WalkSmall
import Derived.Test.YtpcajamacpbjcaaGreatZA
set_option maxHeartbeats 16000000
set_option linter.all false
namespace Go.Proofs.YtpcajamacpbjcaaGreat
open Go.RowKit
variable {p:Addr}{xm:Bool}{f nx s xa xk xt:Int}{ws:List Nat}{xs:List Value}{B H g i j k n sz xn:Nat}{o:Obj}{A:Option Addr}{α:Type}{e t:TypeId}{v x y:Value}{w w' w1 wr:World}
def Rd (w:World) (B:Nat) (A:Option Addr) (xs:List Value):Prop:=
 xs≠[]->∃b off,A=some ⟨b,off,none⟩/\b<B/\∀j (h:j<xs.length),w.cell? ⟨b,off+j,none⟩=some xs[j]
section
variable {w w':World} {B B':Nat} {A:Option Addr} {xs:List Value}
theorem Rd.nil_:Rd w B A []:=λh=>absurd rfl h
theorem Rd.keep(h:Rd w B A xs)(hk:∀p:Addr,p.block<B->w'.cell? p=w.cell? p):Rd w' B A xs:=λf=>by obtain⟨b,a,e,c,d⟩:=h f;exact⟨b,a,e,c,λj g=>(hk ⟨b,a+j,none⟩ c).trans (d j g)⟩
theorem Rd.more(h:Rd w B A xs)(hB:B<=B'):Rd w B' A xs:=λd=>by obtain⟨b,a,e,hb,c⟩:=h d;exact⟨b,a,e,by omega,c⟩
theorem Rd.below(h:Rd w B A xs)(hb:Below B w w'):Rd w' B A xs:=h.keep λ_ a=>hb.cell a
theorem Rd.up(h:Rd w B A xs)(hb:Below B w w')(hB:B<=B'):Rd w' B' A xs:=(h.below hb).more hB
theorem Rd.alloc(h:Rd w B A xs)(hB:B<=w.heap.size)(o:Obj):Rd (w.alloc o) B A xs:=h.keep λp hp=>kze w o p (by omega)
theorem Rd.set_(h:Rd w B A xs)(hB:B<=p.block)(u:Value):Rd (w.setCell p u) B A xs:=
 h.keep λq hq=>kj7 w p q u (λe=>by subst e;omega)
theorem Rd.drop_(h:Rd w B A xs)(k:Nat):Rd w B (A.map (·.add k)) (xs.drop k):=λl=>by
 have f:k<xs.length:=by
  rcases kq7 k xs.length with c|c
  .exact c
  exact absurd (kk7 c) l
 obtain⟨b,a,rfl,i,g⟩:=h (by intro e;subst e;simp at f);refine⟨b,a+k,?_,i,λj m=>?_⟩
 .simp only[kzz,Addr.add];split<;>simp_all
 have d:k+j<xs.length:=by simp at m;omega
 rw[kkb,kj3];exact g _ d
theorem Rd.take_(h:Rd w B A xs)(k:Nat):Rd w B A (xs.take k):=λf=>by obtain⟨b,a,rfl,d,c⟩:=h (by intro e;subst e;simp at f);exact⟨b,a,rfl,d,λj g=>by rw[kkl];exact c j (by simp at g;omega)⟩
theorem Rd.of_own{base size:Nat}{c:Nat}(h:w.ownsRow base e size (.slice A n c) n xs):Rd w w.heap.size A xs:=λd=>by
 have l:0<n:=by
  rcases kjb n with a|a
  .have:=h.1;subst a;simp at this;exact absurd this d
  exact a
 obtain⟨g,cap,k,_,b⟩:=h.form l;have f:A=some ⟨g,0,none⟩:=by injection k
 subst f;refine⟨g,0,rfl,b,λj i=>?_⟩;have:=h.cells (g:=g) rfl j xs[j] (kql i);have e:(⟨g,0,none⟩:Addr).add j=⟨g,0+j,none⟩:=by unfold Addr.add;split<;>simp_all
 rwa [e] at this
end
theorem cm(f:α->List Value)(sz:Nat)(hf:∀x,(f x).length=sz)(l:List α):(l.flatMap f).length=l.length*sz:=by
 induction l with
 | nil=>simp
 | cons x l ih=>rw[kzy,kqs,hf,ih,kq2,kjh];omega
theorem ja(f:α->List Value)(sz:Nat)(hf:∀x,(f x).length=sz)(l:List α)(k j:Nat)(hk:k<l.length)(hj:j<sz):
 (l.flatMap f)[k*sz+j]? = (f l[k])[j]?:=by
 induction l generalizing k with
 | nil=>simp at hk
 | cons x l ih =>
  rw[kzy];cases k with
  | zero=>rw[kj8 (by rw[hf];omega)];simp
  | succ k =>
   rw[kxl (by rw[hf,kjh];omega),hf];have:(k+1)*sz+j-sz=k*sz+j:=by rw[kjh];omega
   rw[this,ih k (by simpa using hk)];simp
theorem Rd.at_flat{f:α->List Value}{l:List α}(hf:∀x,(f x).length=sz)(h:Rd w B A (l.flatMap f))(hsz:0<sz)(hk:k<l.length):
 ∃b a,A=some ⟨b,a,none⟩/\b<B/\∀j,j<sz->w.cell? ⟨b,a+k*sz+j,none⟩=(f l[k])[j]?:=by
 have g:=cm f sz hf l;have c:0<(l.flatMap f).length:=by rw[g];exact Nat.mul_pos (by omega) hsz
 obtain⟨b,a,rfl,n,m⟩:=h (by intro e;rw[e] at c;simp at c);refine⟨b,a,rfl,n,λj o=>?_⟩;have d:k*sz+j<(l.flatMap f).length:=by rw[g];have:(k+1)*sz<=l.length*sz:=kxy _ hk;rw[kjh] at this;omega
 have i:=m _ d;rw[<-kj3] at i;rw[i,<-ja f sz hf l k j hk o];exact (kql d).symm
structure En where
 a:Int
 v:Nat
 deriving DecidableEq,Inhabited
def En.cells (e:En):List Value:=[.int .i64 e.a,.int .u64 (e.v:Int)]
structure Bk where
 at_:Int
 size:Int
 kind:Int
 typ:Int
 mark:Bool
 next:Nat
 deriving DecidableEq,Inhabited
variable {b:Bk}{l:List Bk}
def Bk.cells (b:Bk):List Value:=[.int .i64 b.at_,.int .i64 b.size,.int .i64 b.kind,.int .i64 b.typ,.bool b.mark,.int .u64 (b.next:Int)]
def Bk.val (b:Bk):Value:=.agg #[.int .i64 b.at_,.int .i64 b.size,.int .i64 b.kind,.int .i64 b.typ,.bool b.mark,.int .u64 (b.next:Int)]
def da (x:Int):List Value:=[.int .i64 x]
def ae (x:Nat):List Value:=[.int .u64 (x:Int)]
def RdE (w:World) (B:Nat) (A:Option Addr) (l:List En):Prop:=Rd w B A (l.flatMap En.cells)
def RdB (w:World) (B:Nat) (A:Option Addr) (l:List Bk):Prop:=Rd w B A (l.flatMap Bk.cells)
def RdI (w:World) (B:Nat) (A:Option Addr) (l:List Int):Prop:=Rd w B A (l.flatMap da)
def RdW (w:World) (B:Nat) (A:Option Addr) (l:List Nat):Prop:=Rd w B A (l.flatMap ae)
theorem En.len(x:En):x.cells.length=2:=rfl
theorem Bk.len(x:Bk):x.cells.length=6:=rfl
theorem kg(x:Int):(da x).length=1:=rfl
theorem bY(x:Nat):(ae x).length=1:=rfl
theorem RdE.at_{l:List En}(h:RdE w B A l)(hk:k<l.length):
 ∃b c,A=some ⟨b,c,none⟩/\b<B/\w.cell? ⟨b,c+k*2,none⟩=some (.int .i64 l[k].a)/\w.cell? ⟨b,c+k*2+1,none⟩=some (.int .u64 (l[k].v:Int)):=by obtain⟨b,c,e,f,d⟩:=Rd.at_flat En.len h (by omega) hk;exact⟨b,c,e,f,d 0 (by omega),d 1 (by omega)⟩
theorem RdB.at_(h:RdB w B A l)(hk:k<l.length):
 ∃b a,A=some ⟨b,a,none⟩/\b<B/\w.cell? ⟨b,a+k*6,none⟩=some (.int .i64 l[k].at_)/\w.cell? ⟨b,a+k*6+1,none⟩=some (.int .i64 l[k].size) /\
  w.cell? ⟨b,a+k*6+2,none⟩=some (.int .i64 l[k].kind)/\w.cell? ⟨b,a+k*6+3,none⟩=some (.int .i64 l[k].typ) /\
  w.cell? ⟨b,a+k*6+4,none⟩=some (.bool l[k].mark)/\w.cell? ⟨b,a+k*6+5,none⟩=some (.int .u64 (l[k].next:Int)):=by obtain⟨b,a,e,d,c⟩:=Rd.at_flat Bk.len h (by omega) hk;exact⟨b,a,e,d,c 0 (by omega),c 1 (by omega),c 2 (by omega),c 3 (by omega),c 4 (by omega),c 5 (by omega)⟩
theorem RdI.at_{l:List Int}(h:RdI w B A l)(hk:k<l.length):
 ∃b a,A=some ⟨b,a,none⟩/\b<B/\w.cell? ⟨b,a+k,none⟩=some (.int .i64 l[k]):=by obtain⟨b,a,e,d,c⟩:=Rd.at_flat kg h (by omega) hk;have:=c 0 (by omega);simp only[kxq,kxa] at this;exact⟨b,a,e,d,this⟩
theorem RdW.at_{l:List Nat}(h:RdW w B A l)(hk:k<l.length):
 ∃b a,A=some ⟨b,a,none⟩/\b<B/\w.cell? ⟨b,a+k,none⟩=some (.int .u64 (l[k]:Int)):=by obtain⟨b,a,e,d,c⟩:=Rd.at_flat bY h (by omega) hk;have:=c 0 (by omega);simp only[kxq,kxa] at this;exact⟨b,a,e,d,this⟩
theorem aS(h:B<=w.heap.size):B<=(w.alloc o).heap.size:=by rw[kqm];omega
theorem fF{u:Value}(h:B<=w.heap.size):B<=(w.setCell p u).heap.size:=by rw[kz6];exact h
theorem dr(h:B<=w.heap.size):B<=(w.drewN n).heap.size:=h
theorem bp{a:World}(h:Below B a w)(n:Nat):Below B a (w.drewN n):=⟨h.os,h.tape,h.output,h.size,h.block⟩
theorem i9{b:Nat}{f:Nat->Value}(h:w.rowIs b t n f)(k:Nat):(w.drewN k).rowIs b t n f:=h
theorem nI{b:Nat}{f:Nat->Value}(h:w.rowIs b t n f)(hb:Below B w w')(hlt:b<B):w'.rowIs b t n f:=h.of_block (hb.block b hlt)
theorem H4{k:IntKind}{a b:Int}(h:a=b):Ending.returned (.int k a)=.returned (.int k b):=by rw[h]
theorem box_of{cs:Array Value}(hB:Below (w.heap.size+1) (w.alloc (.cells cs t)) w1):
 (∀i,w1.cell? ⟨w.heap.size,i,none⟩=cs[i]?)/\(∀i,w1.frozen? ⟨w.heap.size,i,none⟩=false)/\Below w.heap.size w w1/\w.heap.size<w1.heap.size:=by have a:w1.heap[w.heap.size]? = some (.cells cs t (0,0)):=(hB.block w.heap.size (by omega)).trans (heap_alloc_new w _);refine⟨λi=>cell_of_row w1 _ i cs t (0,0) a,λi=>by simp[World.frozen?,a],((kqk _ _).alloc (kqa _) _).trans (hB.mono (by omega)),?_⟩;have:=hB.size;simp at this;omega
def Bx (w:World) (g:Nat) (t:TypeId) (cs:Array Value):Prop:=w.heap[g]? = some (.cells cs t (0,0))
section
variable {w w':World} {g B:Nat} {t:TypeId} {cs:Array Value}
theorem Bx.lt(h:Bx w g t cs):g<w.heap.size:=by
 rcases kq7 g w.heap.size with b|a
 .exact b
 unfold Bx at h;rw[kjf a] at h;cases h
theorem Bx.cell(h:Bx w g t cs)(i:Nat):w.cell? ⟨g,i,none⟩=cs[i]?:=cell_of_row w g i cs t (0,0) h
theorem Bx.frozen(h:Bx w g t cs)(i:Nat):w.frozen? ⟨g,i,none⟩=false:=by unfold Bx at h;simp[World.frozen?,h]
theorem Bx.new(w:World)(t:TypeId)(cs:Array Value):Bx (w.alloc (.cells cs t)) w.heap.size t cs:=heap_alloc_new w _
theorem Bx.alloc(h:Bx w g t cs)(o:Obj):Bx (w.alloc o) g t cs:=(Below.heap_alloc w o g h.lt).trans h
theorem Bx.far(h:Bx w g t cs)(hp:g≠p.block)(u:Value):Bx (w.setCell p u) g t cs:=(kkz w p u g hp).trans h
theorem Bx.up(h:Bx w g t cs)(hb:Below B w w')(hg:g<B):Bx w' g t cs:=(hb.block g hg).trans h
theorem Bx.set_(h:Bx w g t cs)(i:Nat)(u:Value):Bx (w.setCell ⟨g,i,none⟩ u) g t (cs.setIfInBounds i u):=by unfold Bx at h |-;simp[World.setCell,Array.getElem?_modify,h]
theorem Bx.of_new(hB:Below (w.heap.size+1) (w.alloc (.cells cs t)) w'):Bx w' w.heap.size t cs:=(Bx.new w t cs).up hB (by omega)
theorem Bx.c1(h:Bx w g t #[x]):w.cell? ⟨g,0,none⟩=some x/\w.frozen? ⟨g,0,none⟩=false/\g<w.heap.size:=⟨h.cell 0,h.frozen 0,h.lt⟩
theorem Bx.c2(h:Bx w g t #[x,y]):w.cell? ⟨g,0,none⟩=some x/\w.cell? ⟨g,1,none⟩=some y/\w.frozen? ⟨g,0,none⟩=false/\w.frozen? ⟨g,1,none⟩=false/\g<w.heap.size:=
 ⟨h.cell 0,h.cell 1,h.frozen 0,h.frozen 1,h.lt⟩
theorem Bx.c3{z:Value}(h:Bx w g t #[x,y,z]):w.cell? ⟨g,0,none⟩=some x/\w.cell? ⟨g,1,none⟩=some y/\w.cell? ⟨g,2,none⟩=some z /\
 w.frozen? ⟨g,0,none⟩=false/\w.frozen? ⟨g,1,none⟩=false/\w.frozen? ⟨g,2,none⟩=false/\g<w.heap.size:=
 ⟨h.cell 0,h.cell 1,h.cell 2,h.frozen 0,h.frozen 1,h.frozen 2,h.lt⟩
theorem Bx.c6{x0 x1 x2 x3 x4 x5:Value}(h:Bx w g t #[x0,x1,x2,x3,x4,x5]):w.cell? ⟨g,0,none⟩=some x0/\w.cell? ⟨g,1,none⟩=some x1/\w.cell? ⟨g,2,none⟩=some x2 /\
 w.cell? ⟨g,3,none⟩=some x3/\w.cell? ⟨g,4,none⟩=some x4/\w.cell? ⟨g,5,none⟩=some x5/\(∀i,w.frozen? ⟨g,i,none⟩=false)/\g<w.heap.size:=
 ⟨h.cell 0,h.cell 1,h.cell 2,h.cell 3,h.cell 4,h.cell 5,h.frozen,h.lt⟩
end
theorem ay(hB:Below (w.heap.size+1) (w.alloc o) w1):Below w.heap.size w w1:=((kqk _ _).alloc (kqa _) _).trans (hB.mono (by omega))
theorem cI(w:World)(cs:List Value)(t:TypeId):∀j u,cs[j]? = some u->(w.alloc (.cells cs.toArray t)).cell? ((⟨w.heap.size,0,none⟩:Addr).add j)=some u:=by
 intro j u a;have e:(⟨w.heap.size,0,none⟩:Addr).add j=⟨w.heap.size,j,none⟩:=by unfold Addr.add;split<;>simp_all
 rw[e,(Bx.new w t cs.toArray).cell j]
 simpa using a
theorem aF(hB:Below H w wr)(hH:H<=wr.heap.size)(hown:wr.ownsRow H e sz v n xs)(hg:(wr.alloc o).grownBy w1 v.ownBlock):Below H w w1:=
 (hB.alloc hH _).grown hg (aS hH) (λk a=>(hown.lt k a).1)
theorem bu(hB:Below H w wr)(hH:H<=wr.heap.size)(hown:wr.ownsRow H e sz v n xs)(hg:wr.grownBy w1 v.ownBlock):Below H w w1:=
 hB.grown hg hH (λk a=>(hown.lt k a).1)
theorem Bx.grown{cs:Array Value}{row:Option Nat}(h:Bx w g t cs)(hb:w.grownBy w' row)(hg:some g≠row):Bx w' g t cs:=(hb.block g h.lt hg).trans h
theorem bQ(hown:w.ownsRow H e sz v n xs)(hg:g<H):some g≠v.ownBlock:=λh=>by have:=(hown.lt g h.symm).1;omega
theorem aE(hown:w.ownsRow H e sz v n xs):∃A c,v=.slice A n c:=by
 rcases hown.2 with⟨rfl,rfl⟩|⟨g,cap,cur,rfl,_⟩
 .exact ⟨none,0,rfl⟩
 exact⟨_,_,rfl⟩
theorem aa(h:w.ownsRow H e sz v n xs)(hb:Below B w w')(hB:w.heap.size<=B):w'.ownsRow H e sz v n xs:=by
 refine⟨h.1,?_⟩;rcases h.2 with i|⟨g,d,c,j,f,a,b⟩
 .exact .inl i
 exact .inr ⟨g,d,c,j,f,(hb.block g (by have:=(kj2.1 a).1;omega)).trans a,b⟩
theorem cB(f:α->List Value)(l:List α)(x:α):(l++[x]).flatMap f=l.flatMap f++f x:=by simp
def En.ok (e:En):Prop:=-9223372036854775808<=e.a/\e.a<=9223372036854775807/\e.v<18446744073709551616
structure Ch where
 A:Option Addr
 c:Nat
 l:List En
 deriving Inhabited
def Ch.cells (x:Ch):List Value:=[.slice x.A x.l.length x.c]
def RdC (w:World) (B:Nat) (A:Option Addr) (l:List Ch):Prop:=Rd w B A (l.flatMap Ch.cells)
theorem Ch.len(x:Ch):x.cells.length=1:=rfl
theorem RdC.at_{l:List Ch}(h:RdC w B A l)(hk:k<l.length):
 ∃b a,A=some ⟨b,a,none⟩/\b<B/\w.cell? ⟨b,a+k,none⟩=some (.slice l[k].A l[k].l.length l[k].c):=by obtain⟨b,a,e,f,d⟩:=Rd.at_flat Ch.len h (by omega) hk;have:=d 0 (by omega);simp only[kxq,kxa] at this;exact⟨b,a,e,f,this⟩
def av (l:List En):List Int:=l.map En.a
theorem aU(l:List En):(av l).length=l.length:=by simp[av]
theorem d7(l:List En)(k:Nat)(h:k<l.length):(av l)[k]?.getD 0=l[k].a:=by simp[av,h]
theorem am{M:Nat}(h:w.ownsRow M e sz v n xs)(hH:H<=M):w.ownsRow H e sz v n xs:=by
 refine⟨h.1,?_⟩;rcases h.2 with d|⟨g,c,b,f,hb1,a⟩
 .exact .inl d
 exact .inr ⟨g,c,b,f,by omega,a⟩
theorem dg{H':Nat}{e':TypeId}{sz' n':Nat}{v':Value}{xs':List Value}(h:w.ownsRow H e sz v n xs)(h':w.ownsRow H' e' sz' v' n' xs')(hne:e≠e'):v.ownBlock=none\/v.ownBlock≠v'.ownBlock:=by
 rcases h.2 with⟨rfl,_⟩|⟨g,cap,cur,rfl,_,b,_⟩
 .exact .inl rfl
 right;rcases h'.2 with⟨rfl,_⟩|⟨g',cap',cur',rfl,_,a,_⟩
 .simp[Value.ownBlock]
 simp only[Value.ownBlock,ne_eq,Option.some.injEq];rintro rfl;rw[b] at a;simp only[Option.some.injEq,Obj.cells.injEq] at a;exact hne a.2.1
theorem yR(f:α->List Value)(hf:∀x,(f x).length=1)(l:List α)(n:Nat):(l.take n).flatMap f=(l.flatMap f).take n:=by
 induction l generalizing n with
 | nil=>simp
 | cons x l ih =>
  have a:=hf x
  match hfx:f x,a with
  | [u],_ =>
   cases n with
   | zero=>simp
   | succ n=>simp[List.flatMap_cons,hfx,ih]
theorem pI(f:α->List Value)(hf:∀x,(f x).length=1)(l:List α)(n:Nat):(l.drop n).flatMap f=(l.flatMap f).drop n:=by
 induction l generalizing n with
 | nil=>simp
 | cons x l ih =>
  have a:=hf x
  match hfx:f x,a with
  | [u],_ =>
   cases n with
   | zero=>simp
   | succ n=>simp[List.flatMap_cons,hfx,ih]
def fL (H:Nat) (err:Int) (out:List En) (e:Ending) (w':World):Prop:=∃A c,e=.returned (.tuple #[.slice A out.length c,.int .i64 err])/\w'.ownsRow H 89 2 (.slice A out.length c) out.length (out.flatMap En.cells)
theorem bN{err r:Int}{out:List En}(h1:err=r)(h2:out=[]):fL H err out (.returned (.tuple #[.slice none 0 0,.int .i64 r])) w':=by subst h1 h2;exact⟨none,0,rfl,kq6 _ _ _ _⟩
def gk (l:List Bk) (k:Nat):Bk:=l[k]?.getD default
theorem bU(l:List Bk)(k:Nat)(h:k<l.length):gk l k=l[k]:=by simp[gk,h]
def Ee (b:Bk):Bool:=(b.kind==1||b.kind==2)&&((decide (2<=b.size)&&(decide (b.size<=2048)&&b.size%2==0))&&(decide (128<=b.at_)&&(b.at_%2==0&&decide (b.at_<=2048-b.size))))
def eh (l:List Bk):Nat->Int
 | 0=>128
 | k+1=>(gk l k).at_+(gk l k).size
def dh (l:List Bk):Nat->Bool
 | 0=>true
 | k+1=>dh l k&&(Ee (gk l k)&&(decide (k=0)||(gk l k).at_==eh l k))
def zY (l:List Bk):Bool:=decide (l.length<=1024)&&dh l l.length
def cu (l:List Bk):Int:=if zY l then 0 else 8
theorem fJ(h:dh l n=true)(hk:k<=n):dh l k=true:=by
 induction n with
 | zero =>
  have:k=0:=by omega
  subst this;exact h
 | succ n ih =>
  rcases kq7 k (n+1) with a|a
  .simp only[dh,kqu] at h;exact ih h.1 (by omega)
  have:k=n+1:=by omega
  subst this;exact h
theorem eg(h:dh l n=true)(hk:k<n):Ee (gk l k)=true/\(k=0\/(gk l k).at_=eh l k):=by have:=fJ h (show k+1<=n from hk);simp only[dh,kqu,kx1,kzd,kqx] at this;exact this.2
theorem ua(h:1024<l.length):cu l=8:=by
 have:¬ l.length<=1024:=by omega
 simp[cu,zY,this]
theorem yN(h:dh l k=false)(hk:k<=l.length):cu l=8:=by
 have:dh l l.length=false:=by
  cases a:dh l l.length with
  | false=>rfl
  | true=>rw[fJ a hk] at h;cases h
 simp[cu,zY,this]
theorem sW(h:l.length<=1024)(hk:dh l l.length=true):cu l=0:=by simp[cu,zY,h,hk]
theorem dG(h:cu l=0):l.length<=1024/\dh l l.length=true:=by
 unfold cu zY at h;split at h
 .rename_i h1
  simpa using h1
 simp at h
theorem xR(l:List Bk):cu l=0\/cu l=8:=by unfold cu;split<;>simp
theorem eP(b:Bk):Ee b=true↔(b.kind=1\/b.kind=2)/\2<=b.size/\b.size<=2048/\b.size%2=0/\128<=b.at_/\b.at_%2=0/\b.at_<=2048-b.size:=by
 simp only[Ee,kqu,kx1,kqx,kzd];constructor
 .rintro ⟨h,⟨d,c,f⟩,e,g,a⟩;exact⟨h,d,c,f,e,g,a⟩
 rintro ⟨h,d,c,f,e,g,a⟩;exact⟨h,⟨d,c,f⟩,e,g,a⟩
theorem B8(h:Ee (gk l k)=false):dh l (k+1)=false:=by simp[dh,h]
theorem xo(h0:k≠0)(h:(gk l k).at_≠eh l k):dh l (k+1)=false:=by
 have:((gk l k).at_==eh l k)=false:=by rw[kqi];exact h
 simp[dh,this,h0]
theorem pJ(hp:dh l k=true)(h:Ee (gk l k)=true)(hn:k=0\/(gk l k).at_=eh l k):dh l (k+1)=true:=by
 rcases hn with a|a
 .subst a;simp[dh,h]
 simp[dh,hp,h,a]
theorem pC(h:dh l k=true):128<=eh l k/\eh l k<=2048:=by
 cases k with
 | zero=>simp[eh]
 | succ k =>obtain⟨a,_⟩:=eg h (kjs k);have:=(eP _).1 a;simp only[eh];omega
def aR (b:Bk):Bool:=b.kind==1&&b.mark
def bB:List Bk->Int->List Int
 | [],_=>[]
 | b::l,s=>if aR b then s::bB l (s+b.size) else 0::bB l s
def aO:List Bk->Int->Int
 | [],s=>s
 | b::l,s=>if aR b then aO l (s+b.size) else aO l s
def io:List Bk->Int
 | []=>0
 | b::l=>if aR b then io l else b.size+io l
def ny (l:List Bk):Int:=if l.length=0 then 2048 else (gk l 0).at_
def eJ (l:List Bk) (s:Int):Int:=if cu l=0 then (if s<128 then 2 else if ny l<s then 2 else if s%2=0 then 0 else 2) else 8
theorem dF(l:List Bk)(s:Int):(bB l s).length=l.length:=by
 induction l generalizing s with
 | nil=>rfl
 | cons b l ih=>simp only[bB];split<;>simp[ih]
theorem ib(a b:List Bk)(s:Int):aO (a++b) s=aO b (aO a s):=by
 induction a generalizing s with
 | nil=>rfl
 | cons x a ih=>simp only[kzn,aO];split<;>exact ih _
theorem jO(a b:List Bk)(s:Int):bB (a++b) s=bB a s++bB b (aO a s):=by
 induction a generalizing s with
 | nil=>rfl
 | cons x a ih=>simp only[kzn,bB,aO];split<;>simp[ih]
theorem ru(a b:List Bk):io (a++b)=io a+io b:=by
 induction a with
 | nil=>simp[io]
 | cons x a ih=>simp only[kzn,io];split<;>omega
theorem iP(h:k<l.length)(s:Int):aO (l.take (k+1)) s=if aR l[k] then aO (l.take k) s+l[k].size else aO (l.take k) s:=by rw[kqp h,ib];rfl
theorem lI(h:k<l.length)(s:Int):bB (l.take (k+1)) s=bB (l.take k) s++[if aR l[k] then aO (l.take k) s else 0]:=by rw[kqp h,jO];simp only[bB];split<;>rfl
theorem ve(h:k<l.length):io (l.take (k+1))=if aR l[k] then io (l.take k) else io (l.take k)+l[k].size:=by rw[kqp h,ru];simp only[io];split<;>omega
def pi (l:List Bk) (k:Nat):Int:=if k=0 then 0 else eh l k-(gk l 0).at_
theorem pH(h:dh l k=true)(hk:k<=l.length)(s:Int):0<=aO (l.take k) s-s/\0<=io (l.take k)/\(aO (l.take k) s-s)+io (l.take k)=pi l k/\pi l k<=1920:=by
 induction k with
 | zero=>simp[aO,io,pi]
 | succ k ih =>
  have a:k<l.length:=by omega
  obtain⟨i1,i2,i3,i4⟩:=ih (fJ h (kz8 k)) (by omega);obtain⟨d,b⟩:=eg h (kjs k);have d:=(eP _).1 d;have hb0:=(eP _).1 (eg h (Nat.succ_pos k)).1;rw[iP a,ve a];have e:pi l (k+1)=pi l k+(gk l k).size:=by
   unfold pi;rw[if_neg (Nat.succ_ne_zero k),show eh l (k+1)=(gk l k).at_+(gk l k).size from rfl];by_cases c:k=0
   .subst c;rw[if_pos rfl];omega
   rw[if_neg c];rcases b with b|b
   .exact absurd b c
   omega
  have f:pi l (k+1)<=1920:=by unfold pi;rw[if_neg (Nat.succ_ne_zero k),show eh l (k+1)=(gk l k).at_+(gk l k).size from rfl];omega
  rw[e] at f |-;rw[<-bU l k a];split<;>omega
theorem zP(h:cu l=0):ny l<=2048:=by
 unfold ny;split
 .omega
 have:=(eP _).1 (eg (dG h).2 (show 0<l.length by omega)).1;omega
theorem lJ(h:cu l=0)(hk:k<=l.length)(hs:128<=s)(hm:s<=ny l):128<=aO (l.take k) s/\aO (l.take k) s<=2048:=by
 obtain⟨h1,a⟩:=dG h;have hmb:=zP h;obtain⟨i1,i2,d,i4⟩:=pH (fJ a hk) hk s;refine⟨by omega,?_⟩;by_cases b:k=0
 .subst b;simp[aO];omega
 have hn:=(pC (fJ a hk)).2;have c:l.length≠0:=by omega
 simp only[pi,b,if_false] at d;simp only[ny,c,if_false] at hm;omega
theorem CU{xs:Int}(hx:gk l k=⟨xa,xs,xk,xt,xm,xn⟩)(hn:eh l k=nx)(h:¬ ((xk=1\/xk=2)/\2<=xs/\xs<=2048/\xs%2=0/\128<=xa/\xa%2=0/\xa<=2048-xs/\(k=0\/xa=nx))):dh l (k+1)=false:=by
 by_cases b:Ee (gk l k)=true
 .have a:=(eP _).1 b;rw[hx] at a;dsimp only at a;refine xo (by omega) ?_;rw[hx,hn];dsimp only;omega
 exact B8 (by cases hq:Ee (gk l k)<;>simp_all)
theorem uj{xs:Int}(hx:gk l k=⟨xa,xs,xk,xt,xm,xn⟩)(hn:eh l k=nx)(hp:dh l k=true)(h:(xk=1\/xk=2)/\2<=xs/\xs<=2048/\xs%2=0/\128<=xa/\xa%2=0/\xa<=2048-xs/\(k=0\/xa=nx)):dh l (k+1)=true:=by
 refine pJ hp ((eP _).2 ?_) ?_
 .rw[hx];dsimp only;omega
 rw[hx,hn];dsimp only;omega
theorem Ip(h:cu l≠0):eJ l s=cu l:=by
 rcases xR l with a|a
 .exact absurd a h
 simp[eJ,a]
theorem Kl(h:cu l=0)(h2:s<128\/ny l<s\/s%2≠0):eJ l s=2:=by
 unfold eJ;rw[if_pos h];by_cases a:s<128
 .rw[if_pos a]
 rw[if_neg a];by_cases b:ny l<s
 .rw[if_pos b]
 rw[if_neg b,if_neg (by omega)]
theorem AO(h:cu l=0)(h2:128<=s/\s<=ny l/\s%2=0):eJ l s=0:=by unfold eJ;rw[if_pos h,if_neg (by omega),if_neg (by omega),if_pos h2.2.2]
theorem fd(h:eJ l s=0):cu l=0/\128<=s/\s<=ny l/\s%2=0:=by
 unfold eJ at h;split at h
 .split at h
  .simp at h
  split at h
  .simp at h
  split at h
  .exact ⟨by assumption,by omega,by omega,by assumption⟩
  simp at h
 simp at h
theorem tU(h:cu l=0)(hm:s<=ny l)(hk:k<l.length):aO (l.take k) s<=(gk l k).at_:=by
 obtain⟨h1,c⟩:=dG h;obtain⟨i1,i2,e,i4⟩:=pH (fJ c (kjv hk)) (kjv hk) s;have d:l.length≠0:=by omega
 simp only[ny,d,if_false] at hm;by_cases a:k=0
 .subst a;simp[aO];exact hm
 simp only[pi,a,if_false] at e;rcases (eg c hk).2 with b|b
 .exact absurd b a
 omega
theorem uE(hk:k<l.length):(bB l s)[k]? = some (if aR (gk l k) then aO (l.take k) s else 0):=by
 have a:=lI hk s;have c:bB l s=bB (l.take (k+1)) s++bB (l.drop (k+1)) (aO (l.take (k+1)) s):=by rw[<-jO,kxb]
 have b:(bB (l.take k) s).length=k:=by rw[dF,kq4];omega
 rw[c,a,kxo,kxl (by omega),b,bU l k hk];simp
def Hc (s b:Nat):Nat:=((s ^^^ b)*1099511628211)%18446744073709551616
def jt (w i:Nat):Nat:=w/256 ^ i%256
def DL (s w:Nat):Nat->Nat
 | 0=>s
 | k+1=>Hc (DL s w k) (jt w k)
def fnvW (s w:Nat):Nat:=DL s w 8
def a8 (s:Nat):List Nat->Nat
 | []=>s
 | w::l=>a8 (fnvW s w) l
def iz (w:Nat):Nat:=fnvW 14695981039346656037 w
theorem sN(w i:Nat):jt w i<256:=kz0 _ (by omega)
theorem II(s b:Nat):Hc s b<18446744073709551616:=kz0 _ (by omega)
theorem uH{s:Nat}(hs:s<18446744073709551616)(w k:Nat):DL s w k<18446744073709551616:=by
 cases k with
 | zero=>exact hs
 | succ k=>exact II _ _
theorem Hw{s:Nat}(hs:s<18446744073709551616)(w:Nat):fnvW s w<18446744073709551616:=uH hs w 8
theorem iY{s:Nat}(hs:s<18446744073709551616)(l:List Nat):a8 s l<18446744073709551616:=by
 induction l generalizing s with
 | nil=>exact hs
 | cons w l ih=>exact ih (Hw hs w)
theorem po(s:Nat)(a b:List Nat):a8 s (a++b)=a8 (a8 s a) b:=by
 induction a generalizing s with
 | nil=>rfl
 | cons w a ih=>exact ih _
theorem mS{l:List Nat}(h:k<l.length)(s:Nat):a8 s (l.take (k+1))=fnvW (a8 s (l.take k)) l[k]:=by rw[kqp h,po];rfl
theorem IQ(s b:Nat)(hb:b<256):s-s%256+((s%256) ^^^ b)=s ^^^ b:=by
 have c:(s%256) ^^^ b<2 ^ 8:=Nat.xor_lt_two_pow (kz0 _ (by omega)) hb;have d:s-s%256=2 ^ 8*(s/256):=by have:=kvl s 256;omega
 apply Nat.eq_of_testBit_eq;intro j;rw[d,Nat.testBit_two_pow_mul_add _ c,Nat.testBit_xor];split
 .rename_i hj;rw[Nat.testBit_xor,show (256:Nat)=2 ^ 8 from rfl,Nat.testBit_mod_two_pow];simp[hj]
 rename_i hj;have a:b.testBit j=false:=Nat.testBit_lt_two_pow (kjq hb (by
  have:2 ^ 8<=2 ^ j:=kjd (by omega) (by omega)
  simpa using this))
 rw[Nat.testBit_xor,a,Bool.xor_false,show (256:Nat)=2 ^ 8 from rfl,<-Nat.shiftRight_eq_div_pow,Nat.testBit_shiftRight];congr 1;omega
def jB (b:Bk):Bool:=(decide (2<=b.size)&&b.size%2==0)&&((b.kind==1&&(decide (0<=b.typ)&&(decide (b.typ<8)&&decide (b.size<=10))))||(b.kind==2&&(b.typ==0&&(!b.mark&&decide (b.size<=1920)))))
theorem bH(b:Bk):jB b=true↔(2<=b.size/\b.size%2=0)/\(b.kind=1/\0<=b.typ/\b.typ<8/\b.size<=10\/b.kind=2/\b.typ=0/\b.mark=false/\b.size<=1920):=by simp only[jB,kqu,kx1,kqx,kzd,kx7]
def pa (m:Bool):Nat:=if m then 1 else 0
def lS (b:Bk):Nat:=b.kind.toNat+pa b.mark*256+b.typ.toNat*512+b.size.toNat*65536
def cS (b:Bk):Nat:=lS b+iz (lS b)%4294967296*4294967296
def ap (w:Nat):Bk:=⟨0,(w/65536%65536:Nat),(w%256:Nat),(w/512%128:Nat),w/256%2==1,0⟩
def aG (w:Nat):Bool:=jB (ap w)&&cS (ap w)==w
theorem Bt(m:Bool):pa m<=1:=by cases m<;>simp[pa]
theorem uq(h:jB b=true):b.kind.toNat<256/\b.typ.toNat<128/\b.size.toNat<65536/\0<=b.kind/\0<=b.typ/\0<=b.size/\b.size<=1920:=by have:=(bH b).1 h;omega
theorem vP(h:jB b=true):lS b<4294967296:=by obtain⟨h1,h2,h3,-⟩:=uq h;have:=Bt b.mark;unfold lS;omega
theorem qt(h:jB b=true):cS b<18446744073709551616:=by have h1:=vP h;have h2:iz (lS b)%4294967296<4294967296:=kz0 _ (by omega);unfold cS;omega
theorem kp(h:jB b=true):ap (cS b)=⟨0,b.size,b.kind,b.typ,b.mark,0⟩:=by
 obtain⟨h1,h2,h3,h4,h5,h6,h7⟩:=uq h;have hm:=Bt b.mark;unfold ap cS;generalize iz (lS b)%4294967296=t;have hl:lS b=b.kind.toNat+pa b.mark*256+b.typ.toNat*512+b.size.toNat*65536:=rfl;generalize lS b=q at *;generalize a:pa b.mark=m at *;have d:(q+t*4294967296)/65536%65536=b.size.toNat:=by omega
 have c:(q+t*4294967296)%256=b.kind.toNat:=by omega
 have f:(q+t*4294967296)/512%128=b.typ.toNat:=by omega
 have e:(q+t*4294967296)/256%2=m:=by omega
 rw[d,c,f,e];congr 1
 .omega
 .omega
 .omega
 rw[<-a];cases b.mark<;>simp[pa]
theorem xe{a:Bk}(h1:a.size=b.size)(h2:a.kind=b.kind)(h3:a.typ=b.typ)(h4:a.mark=b.mark):cS a=cS b/\jB a=jB b:=by unfold cS lS jB;rw[h1,h2,h3,h4];exact⟨rfl,rfl⟩
theorem kt(h:jB b=true):aG (cS b)=true:=by unfold aG;rw[kp h];have:=xe (a:=⟨0,b.size,b.kind,b.typ,b.mark,0⟩) (b:=b) rfl rfl rfl rfl;rw[this.1,this.2,h];simp
def wd (ws:List Nat) (i:Nat):Nat:=ws[i]?.getD 0
def bkAt (ws:List Nat) (i:Nat):Bk:={ ap (wd ws i) with at_:=(i:Nat),next:=wd ws (i+1) }
def stands (ws:List Nat) (i:Nat):Bool:=aG (wd ws i)&&decide ((ap (wd ws i)).size<=(ws.length:Int)-i)
def szAt (ws:List Nat) (i:Nat):Nat:=wd ws i/65536%65536
def oD (ws:List Nat):Nat->Nat->Option (List Bk)
 | 0,i=>if ws.length<=i then some [] else none
 | f+1,i=>if ws.length<=i then some [] else if stands ws i then (oD ws f (i+szAt ws i)).map (bkAt ws i :: ·) else none
def blocks (ws:List Nat) (i:Nat):Option (List Bk):=oD ws ws.length i
theorem aJ(h:stands ws i=true):2<=szAt ws i/\szAt ws i%2=0/\i+szAt ws i<=ws.length:=by unfold stands aG at h;simp only[kqu,kzd] at h;obtain⟨⟨a,_⟩,c⟩:=h;have b:=(bH _).1 a;simp only[ap] at c b;unfold szAt;omega
theorem pY{f:Nat}(h:ws.length-i<=f):∀ {g:Nat},ws.length-i<=g->oD ws f i=oD ws g i:=by
 induction f generalizing i with
 | zero =>
  intro g _;cases g with
  | zero=>rfl
  | succ g=>simp only[oD];rw[if_pos (by omega),if_pos (by omega)]
 | succ f ih =>
  intro g hg;cases g with
  | zero=>simp only[oD];rw[if_pos (by omega),if_pos (by omega)]
  | succ g =>
   simp only[oD];split
   .rfl
   split
   .rename_i hs;have:=aJ hs;rw[ih (i:=i+szAt ws i) (by omega) (g:=g) (by omega)]
   rfl
theorem aD(h:ws.length<=i):blocks ws i=some []:=by
 unfold blocks;cases a:ws.length with
 | zero=>simp[oD,a]
 | succ n=>rw[oD,if_pos (by omega)]
theorem aL(h:i<ws.length)(hs:stands ws i=true):blocks ws i=(blocks ws (i+szAt ws i)).map (bkAt ws i :: ·):=by have hsz:=aJ hs;unfold blocks;rw[pY (f:=ws.length) (i:=i) (by omega) (g:=ws.length+1) (by omega),oD,if_neg (by omega),if_pos hs]
theorem dC(h:i<ws.length)(hs:stands ws i=false):blocks ws i=none:=by unfold blocks;rw[pY (f:=ws.length) (i:=i) (by omega) (g:=ws.length+1) (by omega),oD,if_neg (by omega),if_neg (by rw[hs];exact Bool.false_ne_true)]
def dJ (a:Nat):List Nat:=(List.range (a%256)).map λi=>a/4 ^ (i+4)%4
def nc:List Nat->Nat->Nat
 | [],_=>0
 | k::l,j=>k*4 ^ j+nc l (j+1)
def iG (l:List Nat):Nat:=l.length+nc l 4
def eD (l:List Nat):Bool:=l.all λk=>decide (1<=k)&&decide (k<=3)
def di (l:List Nat):Int:=if 8<l.length then 4 else if eD l=true then 0 else 8
def bg (n:Nat):Nat:=2+(n+1)/2*2
def cD (a b:Nat):Bool:=(decide (a%256<=8)&&eD (dJ a))&&(iG (dJ a)==a&&iz a==b)
theorem fk(a:Nat):(dJ a).length=a%256:=by simp[dJ]
theorem rk(a i:Nat)(h:i<a%256):(dJ a)[i]? = some (a/4 ^ (i+4)%4):=by simp[dJ,h]
theorem nZ(a b:List Nat)(j:Nat):nc (a++b) j=nc a j+nc b (j+a.length):=by
 induction a generalizing j with
 | nil=>simp[nc]
 | cons k a ih=>simp only[kzn,nc,ih,kq2];rw[show j+1+a.length=j+(a.length+1) by omega];omega
theorem uB(l:List Nat)(j:Nat)(h:∀k∈l,k<=3):nc l j+4 ^ j<=4 ^ (j+l.length):=by
 induction l generalizing j with
 | nil=>simp[nc]
 | cons k l ih =>have c:=ih (j+1) (λk b=>h k (by simp[b]));have a:=h k (by simp);simp only[nc,kq2];rw[show j+(l.length+1)=j+1+l.length by omega];have h3:k*4 ^ j<=3*4 ^ j:=kxy _ a;rw[kjm] at c;omega
theorem cZ(l:List Nat):eD l=true↔∀k∈l,1<=k/\k<=3:=by simp[eD]
theorem BP{l:List Nat}(hk:k<l.length)(h:l[k]<1\/3<l[k]):eD l=false:=by
 cases a:eD l with
 | false=>rfl
 | true=>have:=(cZ l).1 a l[k] (kqn hk);omega
theorem ux{l:List Nat}(h:8<l.length):di l=4:=by simp[di,h]
theorem ma{l:List Nat}(h:l.length<=8)(hk:eD l=false):di l=8:=by
 have:¬ 8<l.length:=by omega
 simp[di,this,hk]
theorem jX{l:List Nat}(h:l.length<=8)(hk:eD l=true):di l=0:=by
 have:¬ 8<l.length:=by omega
 simp[di,this,hk]
theorem kO{l:List Nat}(h:di l=0):l.length<=8/\eD l=true:=by
 unfold di at h;split at h
 .simp at h
 split at h
 .exact ⟨by omega,by assumption⟩
 simp at h
theorem zW{l:List Nat}(h:l.length<=8)(hk:eD l=true):iG l<16777216:=by
 have h1:=uB l 4 (λk a=>((cZ l).1 hk k a).2);have h2:4 ^ (4+l.length)<=4 ^ 12:=kjd (by omega) (by omega);have h3:(4:Nat) ^ 12=16777216:=by decide
 have h4:(4:Nat) ^ 4=256:=by decide
 unfold iG;omega
def tyA (b:Bk):Nat:=96+2*b.typ.toNat
def dj (ws:List Nat) (b:Bk):Bool:=cD (wd ws (tyA b)) (wd ws (tyA b+1))&&b.size==((bg (wd ws (tyA b)%256):Nat):Int)
def dW (ws:List Nat) (b:Bk):Bool:=b.kind != 1||dj ws b
def cn (ws:List Nat):List Bk->Int->Bool
 | [],_=>true
 | b::l,s=>dW ws b&&(if aR b then ((b.next:Int)==s)&&cn ws l (s+b.size) else cn ws l s)
def az:List Bk->Int->List (Int × Int)
 | [],_=>[]
 | b::l,s=>if aR b then (b.at_,s)::az l (s+b.size) else az l s
theorem mJ(ws:List Nat)(a b:List Bk)(s:Int):cn ws (a++b) s=(cn ws a s&&cn ws b (aO a s)):=by
 induction a generalizing s with
 | nil=>simp[cn,aO]
 | cons x a ih =>
  simp only[kzn,cn,aO];split
  .rw[ih];simp only[Bool.and_assoc]
  rw[ih];simp only[Bool.and_assoc]
theorem fR(a b:List Bk)(s:Int):az (a++b) s=az a s++az b (aO a s):=by
 induction a generalizing s with
 | nil=>rfl
 | cons x a ih=>simp only[kzn,az,aO];split<;>simp[ih]
theorem pP(h:k<l.length)(s:Int):cn ws (l.take (k+1)) s=(cn ws (l.take k) s&&(dW ws l[k]&&(!aR l[k]||(l[k].next:Int)==aO (l.take k) s))):=by rw[kqp h,mJ];simp only[cn];cases aR l[k]<;>simp
theorem zm(h:k<l.length)(s:Int):az (l.take (k+1)) s=az (l.take k) s++(if aR l[k] then [(l[k].at_,aO (l.take k) s)] else []):=by rw[kqp h,fR];simp only[az]
theorem qm(h:cn ws l s=true)(k:Nat):cn ws (l.take k) s=true:=by rw[<-kxb k l,mJ,kqu] at h;exact h.1
theorem sC(h:cn ws (l.take k) s=false):cn ws l s=false:=by
 cases a:cn ws l s with
 | false=>rfl
 | true=>rw[qm a k] at h;cases h
theorem Fd(h:cn ws l s=true)(hk:k<l.length):dW ws l[k]=true/\(aR l[k]=true->(l[k].next:Int)=aO (l.take k) s):=by
 have a:=qm h (k+1);rw[pP hk] at a;simp only[kqu,kx1,kx7,kqx] at a;exact⟨a.2.1,λc=>by
  rcases a.2.2 with b|b
  .rw[c] at b;cases b
  exact b⟩
theorem dP(P:Nat->List Bk->Prop)(h0:∀i,ws.length<=i->P i [])(h1:∀i l,i<ws.length->stands ws i=true->blocks ws (i+szAt ws i)=some l->P (i+szAt ws i) l->P i (bkAt ws i::l)):
 ∀i l,blocks ws i=some l->P i l:=by
 have c:∀n i l,ws.length-i<=n->blocks ws i=some l->P i l:=by
  intro n
  induction n with
  | zero =>intro i l e h;rw[aD (by omega)] at h;cases h;exact h0 i (by omega)
  | succ n ih =>
   intro i l e h;by_cases d:ws.length<=i
   .rw[aD d] at h;cases h;exact h0 i d
   cases b:stands ws i with
   | false=>rw[dC (by omega) b] at h;cases h
   | true =>
    have hsz:=aJ b;rw[aL (by omega) b] at h;cases a:blocks ws (i+szAt ws i) with
    | none=>rw[a] at h;cases h
    | some l' =>rw[a] at h;simp only[kzz,Option.some.injEq] at h;subst h;exact h1 i l' (by omega) b a (ih _ _ (by omega) a)
 exact λi l h=>c _ i l (kqa _) h
theorem af(ws:List Nat)(i:Nat):(bkAt ws i).at_=(i:Int):=rfl
theorem bo(ws:List Nat)(i:Nat):(bkAt ws i).size=((szAt ws i:Nat):Int):=rfl
theorem fG(h:stands ws i=true):jB (ap (wd ws i))=true:=by unfold stands aG at h;simp only[kqu] at h;exact h.1.1
theorem jm(b:Bk)(l:List Bk)(k:Nat):gk (b::l) (k+1)=gk l k:=by simp[gk]
theorem oo(b:Bk)(l:List Bk):gk (b::l) 0=b:=rfl
theorem Cy(hn:ws.length<=2048)(h:stands ws i=true)(h1:128<=i)(h2:i%2=0):Ee (bkAt ws i)=true:=by have h3:=(bH _).1 (fG h);have h4:=aJ h;rw[eP];have a:(bkAt ws i).kind=(ap (wd ws i)).kind:=rfl;have e2:(ap (wd ws i)).size=((szAt ws i:Nat):Int):=rfl;rw[af,bo,a];omega
theorem bK(hn:ws.length<=2048):∀i l,blocks ws i=some l->128<=i->i%2=0->i<=ws.length ->
 2*l.length+i<=ws.length/\∀k,k<l.length->Ee (gk l k)=true/\(k=0->(gk l k).at_=(i:Int))/\(0<k->(gk l k).at_=(gk l (k-1)).at_+(gk l (k-1)).size):=by
 refine dP _ (λi _ _ _ _=>⟨by simp;omega,λk b=>by simp at b⟩) (λi l hi c hb m j e _=>?_);have a:=aJ c;obtain⟨h3,f⟩:=m (by omega) (by omega) a.2.2;refine⟨by rw[kq2];omega,λk b=>?_⟩;cases k with
 | zero=>exact⟨Cy hn c j e,λ_=>rfl,λh=>absurd h (by omega)⟩
 | succ k =>
  rw[kq2] at b;obtain⟨n,d,g⟩:=f k (by omega);rw[jm];refine⟨n,λh=>absurd h (by omega),λ_=>?_⟩;rw[Nat.add_sub_cancel];cases k with
  | zero=>rw[oo,d rfl,af,bo];omega
  | succ k=>rw[jm];exact g (by omega)
theorem pB(hn:ws.length<=2048)(h:blocks ws i=some l)(h1:128<=i)(h2:i%2=0)(h3:i<=ws.length):cu l=0:=by
 obtain⟨h4,c⟩:=bK hn i l h h1 h2 h3;refine sW (by omega) ?_;have b:∀k,k<=l.length->dh l k=true:=by
  intro k
  induction k with
  | zero=>intro _;rfl
  | succ k ih =>
   intro hk;obtain⟨e,g2,d⟩:=c k (by omega);refine pJ (ih (by omega)) e ?_;rcases kjb k with a|a
   .exact .inl a
   right;obtain⟨m,rfl⟩:∃m,k=m+1:=⟨k-1,by omega⟩;exact d a
 exact b _ (kqa _)
theorem cM(h:blocks ws i=some l)(hi:i<ws.length):0<l.length/\gk l 0=bkAt ws i/\stands ws i=true/\blocks ws (i+szAt ws i)=some (l.drop 1):=by
 cases b:stands ws i with
 | false=>rw[dC hi b] at h;cases h
 | true =>
  rw[aL hi b] at h;cases a:blocks ws (i+szAt ws i) with
  | none=>rw[a] at h;cases h
  | some l' =>rw[a] at h;simp only[kzz,Option.some.injEq] at h;subst h;exact⟨by simp,rfl,rfl,by simp⟩
theorem lD(hn:ws.length<=2048)(h:blocks ws i=some l)(h1:128<=i)(h2:i%2=0)(h3:i<=ws.length)(hs:128<=s)(hs2:s%2=0)(hs3:s<=(i:Int)):eJ l s=0:=by
 refine AO (pB hn h h1 h2 h3) ⟨hs,?_,hs2⟩;unfold ny;split
 .omega
 rename_i hl;have:=(bK hn i l h h1 h2 h3).2 0 (by omega);rw[this.2.1 rfl];exact hs3
theorem jM:∀ {l:List Bk} {s:Int} {p:Nat},p<(az l s).length->∃k,∃h:k<l.length,aR l[k]=true/\(az l s)[p]? = some (l[k].at_,aO (l.take k) s)/\(az (l.take k) s).length=p:=by
 intro l
 induction l with
 | nil=>intro s p h;simp[az] at h
 | cons b l ih =>
  intro s p h;cases a:aR b with
  | true =>
   simp only[az,a,if_true] at h |-;cases p with
   | zero=>exact⟨0,by simp,a,by simp[aO],rfl⟩
   | succ p =>
    obtain⟨k,e,f,d,c⟩:=ih (s:=s+b.size) (p:=p) (by simpa using h);refine⟨k+1,by simpa using e,f,?_,?_⟩
    .simp only[kkd,d,kqc,kxs,aO,a,if_true]
    simp only[kxs,az,a,if_true,kq2,c]
  | false =>
   simp only[az,a,kzm,if_false] at h |-;obtain⟨k,e,f,d,c⟩:=ih (s:=s) (p:=p) h;refine⟨k+1,by simpa using e,f,?_,?_⟩
   .simp only[d,kqc,kxs,aO,a,kzm,if_false]
   simp only[kxs,az,a,kzm,if_false,c]
theorem mQ(ws:List Nat)(j v i:Nat):wd (ws.set j v) i=if j=i/\j<ws.length then v else wd ws i:=by
 unfold wd;by_cases h:j=i
 .subst h;by_cases a:j<ws.length
  .simp[a]
  simp[a]
 simp[h]
theorem iJ(ws:List Nat)(v:Nat)(h:j≠i):wd (ws.set j v) i=wd ws i:=by rw[mQ,if_neg (λa=>h a.1)]
def nQ (j v:Nat) (b:Bk):Bk:=if b.at_+1=(j:Int) then { b with next:=v } else b
theorem mg(v:Nat)(h:j≠i):stands (ws.set j v) i=stands ws i/\szAt (ws.set j v) i=szAt ws i:=by unfold stands szAt;rw[iJ ws v h,kq3];exact⟨rfl,rfl⟩
theorem vq{v:Nat}(h:j≠i)(hj:j<ws.length):bkAt (ws.set j v) i=nQ j v (bkAt ws i):=by
 unfold bkAt nQ;rw[iJ ws v h,mQ];by_cases e:j=i+1
 .rw[if_pos ⟨e,hj⟩,if_pos (by dsimp only;omega)]
 rw[if_neg (λa=>e a.1),if_neg (by dsimp only;omega)]
theorem xJ{v:Nat}(hj:j%2=1)(hl:j<ws.length):∀i,i%2=0->blocks (ws.set j v) i=(blocks ws i).map (List.map (nQ j v)):=by
 have b:∀n i,ws.length-i<=n->i%2=0->blocks (ws.set j v) i=(blocks ws i).map (List.map (nQ j v)):=by
  intro n
  induction n with
  | zero=>intro i d _;rw[aD (by rw[kq3];omega),aD (by omega)];rfl
  | succ n ih =>
   intro i d h2;by_cases hi:ws.length<=i
   .rw[aD (by rw[kq3];omega),aD (by omega)];rfl
   obtain⟨c,e⟩:=mg (ws:=ws) (j:=j) (i:=i) v (by omega);cases a:stands ws i with
   | false=>rw[dC (by rw[kq3];omega) (by rw[c,a]),dC (by omega) a];rfl
   | true =>have hsz:=aJ a;rw[aL (by rw[kq3];omega) (by rw[c,a]),aL (by omega) a,e,ih _ (by omega) (by omega),vq (by omega) hl];cases blocks ws (i+szAt ws i)<;>rfl
 exact λi=>b _ i (kqa _)
theorem lZ(h:cu l=0){m:Nat}(hk:k<l.length)(hm:m<k):(gk l m).at_<(gk l k).at_:=by
 obtain⟨_,a⟩:=dG h
 induction k with
 | zero=>omega
 | succ k ih =>
  have d:=eg a (show k+1<l.length from hk);have h4:=(eP _).1 (eg a (show k<l.length by omega)).1;have e:(gk l (k+1)).at_=(gk l k).at_+(gk l k).size:=by
   rcases d.2 with c|c
   .omega
   exact c
  rcases kq7 m k with b|b
  .have:=ih (by omega) b;omega
  have:m=k:=by omega
  subst this;omega
theorem xK(h:cu l=0){v:Nat}(hk:k<l.length)(hj:l[k].at_+1=(j:Int)):l.map (nQ j v)=l.set k { l[k] with next:=v }:=by
 apply List.ext_getElem (by simp);intro i a h2;have a:i<l.length:=by simpa using a
 rw[List.getElem_map,List.getElem_set];unfold nQ;by_cases e:k=i
 .subst e;rw[if_pos hj,if_pos rfl]
 rw[if_neg e];rw[if_neg ?_];intro h3;have e2:(gk l i).at_=(gk l k).at_:=by rw[bU l i a,bU l k hk];omega
 rcases Nat.lt_or_gt_of_ne e with b|b
 .have:=lZ h a b;omega
 have:=lZ h hk b;omega
theorem y7{ws':List Nat}(hf:∀b∈l,dW ws' b=dW ws b)(hf2:∀b v,b∈l->dW ws' { b with next:=v }=dW ws b):∀ {s:Int},cn ws l s=true->∀ {k:Nat} (e:k<l.length),aR l[k]=true->∀v:Nat,
 cn ws' (l.set k { l[k] with next:=v }) s=((v:Int)==aO (l.take k) s)/\az (l.set k { l[k] with next:=v }) s=az l s:=by
 induction l with
 | nil=>intro s _ k e;simp at e
 | cons b l ih =>
  intro s h k e d v;have i:=hf b (by simp);have f:=hf2 b v (by simp);have g:∀(l:List Bk),(∀b∈l,dW ws' b=dW ws b)->∀s,cn ws' l s=cn ws l s:=by
   intro l d
   induction l with
   | nil=>intro s;rfl
   | cons c l ih2 =>intro s;simp only[cn];rw[d c (by simp),ih2 (λb a=>d b (by simp[a])),ih2 (λb a=>d b (by simp[a]))]
  cases k with
  | zero =>have d:aR b=true:=d;have m:aR { b with next:=v }=true:=d;simp only[cn,d,if_true,kqu] at h;simp only[kqg,kqd,cn,m,if_true,az,d,List.take_zero,aO,f,h.1,kzq];rw[g l (λb a=>hf b (by simp[a])),h.2.2,Bool.and_true];exact⟨rfl,trivial⟩
  | succ k =>
   have e:k<l.length:=by simpa using e
   have d:aR l[k]=true:=d;cases a:aR b with
   | true =>simp only[cn,a,if_true,kqu] at h;obtain⟨n,j⟩:=ih (λb a=>hf b (by simp[a])) (λb v a=>hf2 b v (by simp[a])) h.2.2 e d v;simp only[kqf,kqc,cn,a,if_true,az,kxs,aO,i,h.1,h.2.1,kzq,n,j];exact⟨trivial,trivial⟩
   | false =>simp only[cn,a,kzm,if_false,kqu] at h;obtain⟨n,j⟩:=ih (λb a=>hf b (by simp[a])) (λb v a=>hf2 b v (by simp[a])) h.2 e d v;simp only[kqf,kqc,cn,a,kzm,if_false,az,kxs,aO,i,h.1,kzq,n,j];exact⟨trivial,trivial⟩
def gq (n:Nat) (f s:Int):Bool:=(f%2 != 0)||((s%2 != 0)||(decide (s<128)||(decide (f<s)||decide ((n:Int)<f))))
def ub (n:Nat):Bool:=decide (256<=n)&&(decide (n<=2048)&&n%8==0)
theorem ij(h:gq n f s=false):f%2=0/\s%2=0/\128<=s/\s<=f/\f<=(n:Int):=by simp only[gq,kzs,kqr,kqh] at h;omega
theorem lw(n:Nat)(f s:Int):gq n f s=true↔¬ (f%2=0/\s%2=0/\128<=s/\s<=f/\f<=(n:Int)):=by
 constructor
 .intro h h2;have:gq n f s=false:=by simp only[gq,kzs,kqr,kqh];omega
  rw[this] at h;cases h
 intro h;cases a:gq n f s with
 | true=>rfl
 | false=>exact absurd (ij a) h
def mm (ws:List Nat) (f s:Int):Int:=match blocks ws f.toNat with
 | none=>50
 | some l=>if cn ws l s=true then 0 else 50
def bj (ws:List Nat) (f s:Int):Int:=if ub ws.length=true then (if gq ws.length f s=true then 2 else mm ws f s) else 8
def iH (ws:List Nat) (f s:Int):List (Int × Int):=if bj ws f s=0 then (match blocks ws f.toNat with | none=>[] | some l=>az l s) else []
theorem co(h:bj ws f s=0):ub ws.length=true/\gq ws.length f s=false/\∃l,blocks ws f.toNat=some l/\cn ws l s=true/\iH ws f s=az l s:=by
 have b:=h;unfold bj at h;split at h
 .rename_i h1;split at h
  .simp at h
  rename_i h2;unfold mm at h;cases a:blocks ws f.toNat with
  | none=>rw[a] at h;simp at h
  | some l =>
   rw[a] at h;refine⟨h1,by simpa using h2,l,rfl,?_,?_⟩
   .dsimp only at h;split at h
    .assumption
    simp at h
   unfold iH;rw[if_pos b,a]
 simp at h
theorem jc(h1:ub ws.length=true)(h2:gq ws.length f s=false)(h3:blocks ws f.toNat=some l):bj ws f s=if cn ws l s=true then 0 else 50:=by unfold bj mm;rw[if_pos h1,h2,h3];rfl
theorem nu(h:ub n=true):256<=n/\n<=2048/\n%8=0:=by simp[ub] at h;omega
theorem cC :∀i l,blocks ws i=some l->i%2=0->∀k (h:k<l.length),∃a,l[k]=bkAt ws a/\a%2=0/\i<=a/\a<ws.length/\stands ws a=true/\blocks ws a=some (l.drop k):=by
 refine dP _ (λi _ _ k h=>by simp at h) (λi l c b g o f k h=>?_);have hsz:=aJ b;cases k with
 | zero=>exact⟨i,rfl,f,kqa _,c,b,by rw[aL c b,g];rfl⟩
 | succ k =>obtain⟨a,e,m,h5,n,d,j⟩:=o (by omega) k (by simpa using h);exact⟨a,e,m,by omega,n,d,j⟩
theorem Hg{w:Nat}(h:jB (ap w)=true)(hk:b.kind=(ap w).kind)(ht:b.typ=(ap w).typ)(h1:b.kind=1):tyA b+1<128:=by have:=(bH _).1 h;rw[<-hk,<-ht] at this;unfold tyA;omega
theorem F9{v:Nat}(hj:128<=j){a:Nat}(hs:stands ws a=true)(u:Nat):dW (ws.set j v) { bkAt ws a with next:=u }=dW ws (bkAt ws a):=by
 have e:=fG hs;unfold dW;show ((bkAt ws a).kind != 1||dj (ws.set j v) { bkAt ws a with next:=u })=_;by_cases c:(bkAt ws a).kind=1
 .have h2:=Hg (b:=bkAt ws a) e rfl rfl c;have f:wd (ws.set j v) (tyA (bkAt ws a))=wd ws (tyA (bkAt ws a)):=iJ ws v (by omega);have d:wd (ws.set j v) (tyA (bkAt ws a)+1)=wd ws (tyA (bkAt ws a)+1):=iJ ws v (by omega);unfold dj;show (_||(cD (wd (ws.set j v) (tyA (bkAt ws a))) (wd (ws.set j v) (tyA (bkAt ws a)+1))&&(bkAt ws a).size==((bg (wd (ws.set j v) (tyA (bkAt ws a))%256):Nat):Int)))=_;rw[f,d]
 have:((bkAt ws a).kind != 1)=true:=by rw[kqv];exact c
 rw[this,kkw,kkw]
theorem yB(h:bj ws f s=0){p:Nat}(hp:p<(iH ws f s).length):∃a t:Nat,(iH ws f s)[p]? = some ((a:Int),(t:Int))/\128<=a/\a+1<ws.length/\wd ws (a+1)=t/\t<=2048 /\
 ∀v,(v=t->bj (ws.set (a+1) v) f s=0)/\(v≠t->bj (ws.set (a+1) v) f s=50):=by
 obtain⟨E,F,l,y,G,K⟩:=co h;obtain⟨a1,O,L,a4,a5⟩:=ij F;have g:=nu E;rw[K] at hp |-;obtain⟨k,w,D,I,-⟩:=jM hp;obtain⟨a,e,b1,b2,b3,M,-⟩:=cC _ _ y (by omega) k w;have z:=lD (i:=f.toNat) g.2.1 y (by omega) (by omega) (by omega) (s:=s) L O (by omega);obtain⟨o,C,B,hs3⟩:=fd z;have hbd:=lJ o (kjv w) C B;have x:=(Fd G w).2 D;have hsz:=aJ M;have d:a+1<ws.length:=by omega
 have n:wd ws (a+1)=l[k].next:=by rw[e];rfl
 have q:l[k].at_=(a:Int):=by rw[e];rfl
 refine⟨a,l[k].next,by rw[I,q,x],by omega,d,n,by omega,λv=>?_⟩;have r:=xJ (ws:=ws) (j:=a+1) (v:=v) (by omega) d f.toNat (by omega);rw[y,kzz,xK o w (by rw[q];omega)] at r;have c:∀b∈l,∀u,dW (ws.set (a+1) v) { b with next:=u }=dW ws b:=by intro b g u;obtain⟨m,P,rfl⟩:=kq0 g;obtain⟨a',N,-,-,-,A,-⟩:=cC _ _ y (by omega) m P;rw[N];exact F9 (by omega) A u
 obtain⟨J,-⟩:=y7 (ws:=ws) (ws':=ws.set (a+1) v) (λb g=>by have:=c b g b.next;exact this) (λb u g=>c b g u) G w D v;rw[jc (by rw[kq3];exact E) (by rw[kq3];exact F) r,J,<-x];constructor
 .intro H;subst H;simp
 intro H;have:((v:Int)==(l[k].next:Int))=false:=by rw[kqi];omega
 rw[this];simp
def fa:List Nat->Nat->List Nat->List Nat
 | ws,_,[]=>ws
 | ws,t,v::l=>fa (ws.set t v) (t+1) l
theorem l9(l:List Nat):∀(ws:List Nat) (t:Nat),(fa ws t l).length=ws.length:=by
 induction l with
 | nil=>intro ws t;rfl
 | cons v l ih=>intro ws t;simp only[fa,ih,kq3]
theorem s6(l:List Nat):∀(ws:List Nat) (t i:Nat),t+l.length<=ws.length->wd (fa ws t l) i=if t<=i/\i<t+l.length then l[i-t]?.getD 0 else wd ws i:=by
 induction l with
 | nil=>intro ws t i _;simp only[fa,kxf];rw[if_neg (by omega)]
 | cons v l ih =>
  intro ws t i c;rw[kq2] at c;simp only[fa,kq2];rw[ih (ws.set t v) (t+1) i (by rw[kq3];omega),mQ];by_cases b:t=i
  .subst b;rw[if_neg (by omega),if_pos ⟨rfl,by omega⟩,if_pos (by omega)];simp
  by_cases a:t+1<=i/\i<t+1+l.length
  .rw[if_pos a,if_pos (by omega)];obtain⟨m,rfl⟩:∃m,i=t+1+m:=⟨i-(t+1),by omega⟩;rw[show t+1+m-(t+1)=m by omega,show t+1+m-t=m+1 by omega];simp
  rw[if_neg a,if_neg (λh=>b h.1),if_neg (by omega)]
theorem ep{xs:List Nat}(hn:xs.length=ws.length):∀i,(∀j,i<=j->wd xs j=wd ws j)->blocks xs i=blocks ws i:=by
 have c:∀n i,ws.length-i<=n->(∀j,i<=j->wd xs j=wd ws j)->blocks xs i=blocks ws i:=by
  intro n
  induction n with
  | zero=>intro i h _;rw[aD (by omega),aD (by omega)]
  | succ n ih =>
   intro i h b;by_cases hi:ws.length<=i
   .rw[aD (by omega),aD (by omega)]
   have d:stands xs i=stands ws i:=by unfold stands;rw[b i (kqa _),hn]
   have e:szAt xs i=szAt ws i:=by unfold szAt;rw[b i (kqa _)]
   have f:bkAt xs i=bkAt ws i:=by unfold bkAt;rw[b i (kqa _),b (i+1) (by omega)]
   cases a:stands ws i with
   | false=>rw[dC (by omega) (by rw[d,a]),dC (by omega) a]
   | true =>have hsz:=aJ a;rw[aL (by omega) (by rw[d,a]),aL (by omega) a,e,f,ih _ (by omega) (λj hj=>b j (by omega))]
 exact λi=>c _ i (kqa _)
theorem ui{xs:List Nat}(hw:∀j,j<128->wd xs j=wd ws j):∀ {l:List Bk},(∀b∈l,b.kind=1->tyA b+1<128)->∀s,cn xs l s=cn ws l s:=by
 intro l
 induction l with
 | nil=>intro _ s;rfl
 | cons b l ih =>
  intro h s;have e:dW xs b=dW ws b:=by
   unfold dW;by_cases c:b.kind=1
   .have h2:=h b (by simp) c;unfold dj;rw[hw _ (by omega),hw _ (by omega)]
   have:(b.kind != 1)=true:=by rw[kqv];exact c
   rw[this,kkw,kkw]
  simp only[cn,e];rw[ih (λb a=>h b (by simp[a])),ih (λb a=>h b (by simp[a]))]
theorem iN(h:blocks ws i=some l)(h2:i%2=0):∀b∈l,b.kind=1->tyA b+1<128:=by intro b f c;obtain⟨m,g,rfl⟩:=kq0 f;obtain⟨a,e,-,-,-,d,-⟩:=cC _ _ h h2 m g;rw[e] at c |-;exact Hg (fG d) rfl rfl c
def dY (ws:List Nat) (f t:Int):Int:=if bj ws f t=0 then (match blocks ws f.toNat with | some (b::_)=>if b.mark then 0 else 6 | _=>6) else bj ws f t
def ei (ws:List Nat) (f:Nat):List Nat:=(List.range (szAt ws f)).map λi=>if i=0 then cS { ap (wd ws f) with mark:=false } else if i=1 then 0 else wd ws (f+i)
theorem yZ{t:Int}(h:dY ws f t=0):bj ws f t=0/\∃a:Nat,f=(a:Int)/\a%2=0/\128<=a/\a<ws.length/\stands ws a=true/\aR (bkAt ws a)=true/\∃l,blocks ws a=some (bkAt ws a::l)/\blocks ws (a+szAt ws a)=some l:=by
 unfold dY at h;split at h
 .rename_i h0;refine⟨h0,?_⟩;obtain⟨h1,o,l,c,h4,h5⟩:=co h0;obtain⟨a1,a2,a3,a4,a5⟩:=ij o;rw[c] at h;cases l with
  | nil=>simp at h
  | cons b l =>
   dsimp only at h;split at h
   .rename_i hm;refine⟨f.toNat,by omega,by omega,by omega,?_,?_⟩
    .rcases kq7 f.toNat ws.length with d|d
     .exact d
     rw[aD d] at c;simp at c
    have i:f.toNat<ws.length:=by
     rcases kq7 f.toNat ws.length with d|d
     .exact d
     rw[aD d] at c;simp at c
    obtain⟨_,g,k,n⟩:=cM c i;have g:b=bkAt ws f.toNat:=g;subst g;refine⟨k,?_,l,c,by simpa using n⟩;have m:=(bH _).1 (fG k);have j:(ap (wd ws f.toNat)).mark=true:=hm;have p:(bkAt ws f.toNat).kind=1:=by
     rcases m.2 with e|e
     .exact e.1
     rw[j] at e;exact absurd e.2.2.1 (by simp)
    simp[aR,p];exact hm
   simp at h
 rename_i h0;exact absurd h h0
theorem gM(ws:List Nat)(f:Nat):(ei ws f).length=szAt ws f:=by simp[ei]
theorem kE(ws:List Nat)(f i:Nat)(h:i<szAt ws f):(ei ws f)[i]? = some (if i=0 then cS { ap (wd ws f) with mark:=false } else if i=1 then 0 else wd ws (f+i)):=by simp[ei,h]
theorem tv{w:Nat}(h:jB (ap w)=true)(hk:(ap w).kind=1):jB { ap w with mark:=false }=true:=by
 have:=(bH _).1 h;rw[bH];show _/\((ap w).kind=1/\_\/_);rcases this.2 with a|a
 .exact ⟨this.1,.inl a⟩
 rw[hk] at a;exact absurd a.1 (by omega)
theorem gI{t:Int}(h:dY ws f t=0):∃a u n:Nat,f=(a:Int)/\t=(u:Int)/\n=szAt ws a/\2<=n/\n<=10/\128<=u/\u<=a/\a+n<=ws.length/\stands ws a=true/\aR (bkAt ws a)=true /\
 (∃l,blocks ws a=some (bkAt ws a::l)/\blocks ws (a+n)=some l/\blocks (fa ws u (ei ws a)) (a+n)=some l/\bj (fa ws u (ei ws a)) ((a+n:Nat):Int) ((u+n:Nat):Int)=0 /\
  iH ws f t=((a:Int),(u:Int))::iH (fa ws u (ei ws a)) ((a+n:Nat):Int) ((u+n:Nat):Int)) /\
 wd (fa ws u (ei ws a)) u=cS { ap (wd ws a) with mark:=false }/\jB { ap (wd ws a) with mark:=false }=true:=by
 obtain⟨N,a,rfl,M,c2,c3,r,o,l,v,C⟩:=yZ h;obtain⟨D,J,l',A,E,H⟩:=co N;obtain⟨a1,a2,a3,a4,a5⟩:=ij J;have B:=nu D;rw[kqj,v] at A;cases A;obtain⟨u,rfl⟩:=kq1 (show 0<=t by omega);have p:=aJ r;have F:(bkAt ws a).kind=1:=by simp[aR] at o;exact o.1
 have w:=(bH _).1 (fG r);have m:szAt ws a<=10:=by
  have e1:(ap (wd ws a)).size=((szAt ws a:Nat):Int):=rfl;have y:(ap (wd ws a)).kind=1:=F;rcases w.2 with z|z
  .omega
  rw[y] at z;exact absurd z.1 (by omega)
 have s:=tv (fG r) F;have d:=gM ws a;have k:∀i,wd (fa ws u (ei ws a)) i=if u<=i/\i<u+szAt ws a then (ei ws a)[i-u]?.getD 0 else wd ws i:=by intro i;rw[s6 _ _ _ _ (by rw[d];omega),d]
 have c:∀j,a+szAt ws a<=j->wd (fa ws u (ei ws a)) j=wd ws j:=λj K=>by rw[k,if_neg (by omega)]
 have g:blocks (fa ws u (ei ws a)) (a+szAt ws a)=some l:=by rw[ep (l9 _ _ _) _ c,C]
 have x:∀j,j<128->wd (fa ws u (ei ws a)) j=wd ws j:=λj K=>by rw[k,if_neg (by omega)]
 have I:cn ws l ((u:Int)+(szAt ws a:Nat))=true:=by simp only[cn,o,if_true,kqu] at E;exact E.2.2
 have G:cn (fa ws u (ei ws a)) l ((u+szAt ws a:Nat):Int)=true:=by
  rw[ui x (λb B=>iN v M b (by simp[B]))]
  simpa using I
 have q:bj (fa ws u (ei ws a)) ((a+szAt ws a:Nat):Int) ((u+szAt ws a:Nat):Int)=0:=by
  rw[jc (by rw[l9];exact D) ?_ (by rw[kqj];exact g),if_pos G];rw[l9];cases L:gq ws.length ((a+szAt ws a:Nat):Int) ((u+szAt ws a:Nat):Int) with
  | false=>rfl
  | true=>exact absurd (by omega) ((lw _ _ _).1 L)
 refine⟨a,u,szAt ws a,rfl,rfl,rfl,p.1,m,by omega,by omega,p.2.2,r,o,⟨l,v,C,g,q,?_⟩,?_,s⟩
 .rw[H];have e:iH (fa ws u (ei ws a)) ((a+szAt ws a:Nat):Int) ((u+szAt ws a:Nat):Int)=az l ((u+szAt ws a:Nat):Int):=by unfold iH;rw[if_pos q,kqj,g]
  rw[e];simp only[az,o,if_true,af,bo];simp
 rw[k,if_pos (by omega),kvr,kE _ _ _ (by omega),kq5,if_pos rfl]
def bG (b:Bk) (s:Int):Nat:=if aR b then s.toNat else 0
def fg (b:Bk) (s:Int):Int:=if aR b then s+b.size else s
def aY:List Bk->Int->List En
 | [],_=>[]
 | b::l,s=>(if b.kind=1/\b.next≠bG b s then [⟨b.at_+1,bG b s⟩] else [])++aY l (fg b s)
def fwB:List Bk->Int->List Bk
 | [],_=>[]
 | b::l,s=>(if b.kind=1 then { b with next:=bG b s } else b)::fwB l (fg b s)
def ai:List Nat->List En->List Nat
 | ws,[]=>ws
 | ws,e::l=>ai (if 0<=e.a/\e.a<(ws.length:Int) then ws.set e.a.toNat e.v else ws) l
theorem au(l:List En):∀ws:List Nat,(ai ws l).length=ws.length:=by
 induction l with
 | nil=>intro ws;rfl
 | cons e l ih=>intro ws;simp only[ai,ih];split<;>simp
theorem eT(a b:List En):∀ws:List Nat,ai ws (a++b)=ai (ai ws a) b:=by
 induction a with
 | nil=>intro ws;rfl
 | cons e a ih=>intro ws;simp only[kzn,ai,ih]
theorem aP(l:List En):∀(ws:List Nat) (i:Nat),(∀e∈l,e.a≠(i:Int))->wd (ai ws l) i=wd ws i:=by
 induction l with
 | nil=>intro ws i _;rfl
 | cons e l ih =>
  intro ws i h;simp only[ai];rw[ih _ i (λx b=>h x (by simp[b]))];split
  .rename_i hb;exact iJ ws _ (by have:=h e (by simp);omega)
  rfl
theorem tw(a b:List Bk):∀s,aY (a++b) s=aY a s++aY b (aO a s):=by
 induction a with
 | nil=>intro s;rfl
 | cons x a ih =>intro s;simp only[kzn,aY,ih,aO,fg,kxo];cases aR x<;>simp
theorem qq :∀i l,blocks ws i=some l->∀s,∀e∈aY l s,(i:Int)+1<=e.a/\e.a<(ws.length:Int):=by
 refine dP _ (λi _ s e h=>by simp[aY] at h) (λi l hi b hb c s e h=>?_);have hsz:=aJ b;simp only[aY,kzo] at h;rcases h with h|h
 .split at h
  .simp only[kqw,kzk,or_false] at h;subst h;show (i:Int)+1<=(bkAt ws i).at_+1/\(bkAt ws i).at_+1<_;rw[af];omega
  simp at h
 have:=c _ e h;omega
theorem qU{v:Nat}(h:i+1<ws.length):bkAt (ws.set (i+1) v) i={ bkAt ws i with next:=v }:=by rw[vq (by omega) h];unfold nQ;rw[if_pos (by rw[af];omega)]
theorem t9{v:Nat}(h:b.next=v):{ b with next:=v }=b:=by subst h;rfl
theorem tT:∀n (ws:List Nat) (i:Nat) (l:List Bk),ws.length-i<=n->blocks ws i=some l->∀s,blocks (ai ws (aY l s)) i=some (fwB l s)/\∀j,j<=i->wd (ai ws (aY l s)) j=wd ws j:=by
 intro n
 induction n with
 | zero =>intro ws i l x h s;rw[aD (by omega)] at h;cases h;exact⟨by simp only[aY,ai,fwB];exact aD (by omega),λj _=>rfl⟩
 | succ n ih =>
  intro ws i l x h s;by_cases c:ws.length<=i
  .rw[aD c] at h;cases h;exact⟨by simp only[aY,ai,fwB];exact aD c,λj _=>rfl⟩
  have c:i<ws.length:=by omega
  cases k:stands ws i with
  | false=>rw[dC c k] at h;cases h
  | true =>
   have hsz:=aJ k;rw[aL c k] at h;cases p:blocks ws (i+szAt ws i) with
   | none=>rw[p] at h;cases h
   | some l' =>
    rw[p] at h;simp only[kzz,Option.some.injEq] at h;subst h;obtain⟨a,t,b,m,o,e,d⟩:∃a,ai ws (aY (bkAt ws i::l') s)=ai a (aY l' (fg (bkAt ws i) s))/\a.length=ws.length/\bkAt a i=(if (bkAt ws i).kind=1 then { bkAt ws i with next:=bG (bkAt ws i) s } else bkAt ws i)/\stands a i=stands ws i/\szAt a i=szAt ws i/\∀j,j≠i+1->wd a j=wd ws j:=by
     by_cases f:(bkAt ws i).kind=1/\(bkAt ws i).next≠bG (bkAt ws i) s
     .refine ⟨ws.set (i+1) (bG (bkAt ws i) s),?_,by simp,?_,(mg _ (by omega)).1,(mg _ (by omega)).2,λj w=>iJ ws _ (by omega)⟩
      .simp only[aY];rw[if_pos f,eT];simp only[ai];rw[if_pos (by rw[af];omega),af,show ((i:Int)+1).toNat=i+1 by omega]
      rw[qU (by omega),if_pos f.1]
     refine⟨ws,?_,rfl,?_,rfl,rfl,λj _=>rfl⟩
     .simp only[aY];rw[if_neg f,kz2]
     split
     .rename_i hk;have:(bkAt ws i).next=bG (bkAt ws i) s:=by
       rcases Nat.decEq (bkAt ws i).next (bG (bkAt ws i) s) with q|q
       .exact absurd ⟨hk,q⟩ f
       exact q
      exact (t9 this).symm
     rfl
    have r:blocks a (i+szAt ws i)=some l':=by rw[ep b _ (λj w=>d j (by omega)),p]
    obtain⟨v,g⟩:=ih a (i+szAt ws i) l' (by omega) r (fg (bkAt ws i) s);rw[t];obtain⟨E,z⟩:=xq (aY l' (fg (bkAt ws i) s));rw[z] at v g |-;have u:wd (ai a E) i=wd a i:=g i (by omega);have C:wd (ai a E) (i+1)=wd a (i+1):=g (i+1) (by omega);have A:stands (ai a E) i=stands a i:=by unfold stands;rw[u,au]
    have y:szAt (ai a E) i=szAt a i:=by unfold szAt;rw[u]
    have B:bkAt (ai a E) i=bkAt a i:=by unfold bkAt;rw[u,C]
    refine⟨?_,λj w=>by rw[g j (by omega)];exact d j (by omega)⟩;rw[aL (by rw[au,b];exact c) (by rw[A,o,k]),y,B,e,v,m];rfl
theorem Ex :∀ {s:Int},aO (fwB l s) s=aO l s/\az (fwB l s) s=az l s/\(fwB l s).map (λb=>(b.at_,b.size,b.kind,b.mark))=l.map (λb=>(b.at_,b.size,b.kind,b.mark)):=by
 induction l with
 | nil=>intro s;exact⟨rfl,rfl,rfl⟩
 | cons b l ih =>
  intro s;have e:aR (if b.kind=1 then { b with next:=bG b s } else b)=aR b:=by split<;>rfl
  have i:(if b.kind=1 then { b with next:=bG b s } else b).size=b.size:=by split<;>rfl
  have g:(if b.kind=1 then { b with next:=bG b s } else b).at_=b.at_:=by split<;>rfl
  have f:(if b.kind=1 then { b with next:=bG b s } else b).kind=b.kind:=by split<;>rfl
  have h:(if b.kind=1 then { b with next:=bG b s } else b).mark=b.mark:=by split<;>rfl
  simp only[fwB,aO,az,kxm,e,i,g,f,h];unfold fg;split
  .obtain ⟨c,d,a⟩:=ih (s:=s+b.size);rw[c,d,a];exact⟨rfl,rfl,rfl⟩
  obtain⟨c,d,a⟩:=ih (s:=s);rw[c,d,a];exact⟨rfl,rfl,rfl⟩
end Go.Proofs.YtpcajamacpbjcaaGreat
