/- Texts laid together: Base BrkP BrkQ BrkX HeapP KindP FwdP FwdQ FwdR SldP FwbP. -/
import Derived.Test.YtpcajamacpbjcaaGreatRows
import Derived.WalkKit
import Derived.WalkSpells
import Derived.WalkLawsBesides
import Derived.Deep.QuietTactic
import Derived.BigQuiet
import Derived.Lib.Hide
import Derived.Deep.AppendLies
import Derived.Deep.OwnRows
import Derived.Deep.Cut
import Derived.Deep.Draws
import Derived.Deep.LoopGhost
import Derived.Deep.RegionWith
import Derived.WalkSmall
import Derived.Test.YtpcajamacpbjcaaGreatZA
set_option maxHeartbeats 16000000
set_option linter.all false
namespace Go.Proofs.YtpcajamacpbjcaaGreat
open Go.RowKit
variable {p:Addr}{xm:Bool}{f nx s xa xk xt:Int}{ws:List Nat}{xs:List Value}{B H g i j k n sz xn:Nat}{o:Obj}{A:Option Addr}{α:Type}{e t:TypeId}{v x y:Value}{w w' w1 wr:World}
def Rd (w:World) (B:Nat) (A:Option Addr) (xs:List Value):Prop:=
 xs≠[]->∃b off,A=some ⟨b,off,none⟩/\b<B/\∀j (h:j<xs.length),w.cell? ⟨b,off+j,none⟩=some xs[j]
section
variable {w w':World} {B B':Nat} {A:Option Addr} {xs:List Value}
theorem Rd.nil_:Rd w B A []:=λh=>absurd rfl h
theorem Rd.keep(h:Rd w B A xs)(hk:∀p:Addr,p.block<B->w'.cell? p=w.cell? p):Rd w' B A xs:=λd=>by obtain⟨b,a,e,c,f⟩:=h d;exact⟨b,a,e,c,λj g=>(hk ⟨b,a+j,none⟩ c).trans (f j g)⟩
theorem Rd.more(h:Rd w B A xs)(hB:B<=B'):Rd w B' A xs:=λc=>by obtain⟨b,a,e,hb,d⟩:=h c;exact⟨b,a,e,by omega,d⟩
theorem Rd.below(h:Rd w B A xs)(hb:Below B w w'):Rd w' B A xs:=h.keep λ_ a=>hb.cell a
theorem Rd.up(h:Rd w B A xs)(hb:Below B w w')(hB:B<=B'):Rd w' B' A xs:=(h.below hb).more hB
theorem Rd.alloc(h:Rd w B A xs)(hB:B<=w.heap.size)(o:Obj):Rd (w.alloc o) B A xs:=h.keep λp hp=>kzh w o p (by omega)
theorem Rd.set_(h:Rd w B A xs)(hB:B<=p.block)(u:Value):Rd (w.setCell p u) B A xs:=
 h.keep λq hq=>kju w p q u (λe=>by subst e;omega)
theorem Rd.drop_(h:Rd w B A xs)(k:Nat):Rd w B (A.map (·.add k)) (xs.drop k):=λg=>by
 have d:k<xs.length:=by
  rcases kq6 k xs.length with c|c
  .exact c
  exact absurd (kkt c) g
 obtain⟨b,f,rfl,i,l⟩:=h (by intro e;subst e;simp at d);refine⟨b,f+k,?_,i,λj m=>?_⟩
 .simp only[kzt,Addr.add];split<;>simp_all
 have a:k+j<xs.length:=by simp at m;omega
 rw[kjx,kj2];exact l _ a
theorem Rd.take_(h:Rd w B A xs)(k:Nat):Rd w B A (xs.take k):=λc=>by obtain⟨b,a,rfl,d,f⟩:=h (by intro e;subst e;simp at c);exact⟨b,a,rfl,d,λj g=>by rw[kka];exact f j (by simp at g;omega)⟩
theorem Rd.of_own{base size:Nat}{c:Nat}(h:w.ownsRow base e size (.slice A n c) n xs):Rd w w.heap.size A xs:=λd=>by
 have k:0<n:=by
  rcases kjr n with a|a
  .have:=h.1;subst a;simp at this;exact absurd this d
  exact a
 obtain⟨g,cap,i,_,b⟩:=h.form k;have f:A=some ⟨g,0,none⟩:=by injection i
 subst f;refine⟨g,0,rfl,b,λj l=>?_⟩;have:=h.cells (g:=g) rfl j xs[j] (kql l);have e:(⟨g,0,none⟩:Addr).add j=⟨g,0+j,none⟩:=by unfold Addr.add;split<;>simp_all
 rwa [e] at this
end
theorem ci(f:α->List Value)(sz:Nat)(hf:∀x,(f x).length=sz)(l:List α):(l.flatMap f).length=l.length*sz:=by
 induction l with
 | nil=>simp
 | cons x l ih=>rw[kzp,kqs,hf,ih,kq1,kjd];omega
theorem jA(f:α->List Value)(sz:Nat)(hf:∀x,(f x).length=sz)(l:List α)(k j:Nat)(hk:k<l.length)(hj:j<sz):
 (l.flatMap f)[k*sz+j]? = (f l[k])[j]?:=by
 induction l generalizing k with
 | nil=>simp at hk
 | cons x l ih =>
  rw[kzp];cases k with
  | zero=>rw[kkd (by rw[hf];omega)];simp
  | succ k =>
   rw[kxe (by rw[hf,kjd];omega),hf];have:(k+1)*sz+j-sz=k*sz+j:=by rw[kjd];omega
   rw[this,ih k (by simpa using hk)];simp
theorem Rd.at_flat{f:α->List Value}{l:List α}(hf:∀x,(f x).length=sz)(h:Rd w B A (l.flatMap f))(hsz:0<sz)(hk:k<l.length):
 ∃b a,A=some ⟨b,a,none⟩/\b<B/\∀j,j<sz->w.cell? ⟨b,a+k*sz+j,none⟩=(f l[k])[j]?:=by
 have g:=ci f sz hf l;have c:0<(l.flatMap f).length:=by rw[g];exact Nat.mul_pos (by omega) hsz
 obtain⟨b,a,rfl,m,n⟩:=h (by intro e;rw[e] at c;simp at c);refine⟨b,a,rfl,m,λj o=>?_⟩;have d:k*sz+j<(l.flatMap f).length:=by rw[g];have:(k+1)*sz<=l.length*sz:=kxn _ hk;rw[kjd] at this;omega
 have i:=n _ d;rw[<-kj2] at i;rw[i,<-jA f sz hf l k j hk o];exact (kql d).symm
structure En where
 a:Int
 v:Nat
 deriving DecidableEq,Inhabited
def En.cells (e:En):List Value:=[.int .i64 e.a,.int .u64 (e.v:Int)]
structure Bk where
 at_:Int
 size:Int
 kind:Int
 typ:Int
 mark:Bool
 next:Nat
 deriving DecidableEq,Inhabited
variable {b:Bk}{l:List Bk}
def Bk.cells (b:Bk):List Value:=[.int .i64 b.at_,.int .i64 b.size,.int .i64 b.kind,.int .i64 b.typ,.bool b.mark,.int .u64 (b.next:Int)]
def Bk.val (b:Bk):Value:=.agg #[.int .i64 b.at_,.int .i64 b.size,.int .i64 b.kind,.int .i64 b.typ,.bool b.mark,.int .u64 (b.next:Int)]
def cE (x:Int):List Value:=[.int .i64 x]
def aa (x:Nat):List Value:=[.int .u64 (x:Int)]
def RdE (w:World) (B:Nat) (A:Option Addr) (l:List En):Prop:=Rd w B A (l.flatMap En.cells)
def RdB (w:World) (B:Nat) (A:Option Addr) (l:List Bk):Prop:=Rd w B A (l.flatMap Bk.cells)
def RdI (w:World) (B:Nat) (A:Option Addr) (l:List Int):Prop:=Rd w B A (l.flatMap cE)
def RdW (w:World) (B:Nat) (A:Option Addr) (l:List Nat):Prop:=Rd w B A (l.flatMap aa)
theorem En.len(x:En):x.cells.length=2:=rfl
theorem Bk.len(x:Bk):x.cells.length=6:=rfl
theorem jm(x:Int):(cE x).length=1:=rfl
theorem aX(x:Nat):(aa x).length=1:=rfl
theorem RdE.at_{l:List En}(h:RdE w B A l)(hk:k<l.length):
 ∃b c,A=some ⟨b,c,none⟩/\b<B/\w.cell? ⟨b,c+k*2,none⟩=some (.int .i64 l[k].a)/\w.cell? ⟨b,c+k*2+1,none⟩=some (.int .u64 (l[k].v:Int)):=by obtain⟨b,c,e,f,d⟩:=Rd.at_flat En.len h (by omega) hk;exact⟨b,c,e,f,d 0 (by omega),d 1 (by omega)⟩
theorem RdB.at_(h:RdB w B A l)(hk:k<l.length):
 ∃b a,A=some ⟨b,a,none⟩/\b<B/\w.cell? ⟨b,a+k*6,none⟩=some (.int .i64 l[k].at_)/\w.cell? ⟨b,a+k*6+1,none⟩=some (.int .i64 l[k].size) /\
  w.cell? ⟨b,a+k*6+2,none⟩=some (.int .i64 l[k].kind)/\w.cell? ⟨b,a+k*6+3,none⟩=some (.int .i64 l[k].typ) /\
  w.cell? ⟨b,a+k*6+4,none⟩=some (.bool l[k].mark)/\w.cell? ⟨b,a+k*6+5,none⟩=some (.int .u64 (l[k].next:Int)):=by obtain⟨b,a,e,d,c⟩:=Rd.at_flat Bk.len h (by omega) hk;exact⟨b,a,e,d,c 0 (by omega),c 1 (by omega),c 2 (by omega),c 3 (by omega),c 4 (by omega),c 5 (by omega)⟩
theorem RdI.at_{l:List Int}(h:RdI w B A l)(hk:k<l.length):
 ∃b a,A=some ⟨b,a,none⟩/\b<B/\w.cell? ⟨b,a+k,none⟩=some (.int .i64 l[k]):=by obtain⟨b,a,e,c,d⟩:=Rd.at_flat jm h (by omega) hk;have:=d 0 (by omega);simp only[kxh,kz8] at this;exact⟨b,a,e,c,this⟩
theorem RdW.at_{l:List Nat}(h:RdW w B A l)(hk:k<l.length):
 ∃b a,A=some ⟨b,a,none⟩/\b<B/\w.cell? ⟨b,a+k,none⟩=some (.int .u64 (l[k]:Int)):=by obtain⟨b,a,e,c,d⟩:=Rd.at_flat aX h (by omega) hk;have:=d 0 (by omega);simp only[kxh,kz8] at this;exact⟨b,a,e,c,this⟩
theorem aY(h:B<=w.heap.size):B<=(w.alloc o).heap.size:=by rw[kqm];omega
theorem fF{u:Value}(h:B<=w.heap.size):B<=(w.setCell p u).heap.size:=by rw[kz6];exact h
theorem dh(h:B<=w.heap.size):B<=(w.drewN n).heap.size:=h
theorem bv{a:World}(h:Below B a w)(n:Nat):Below B a (w.drewN n):=⟨h.os,h.tape,h.output,h.size,h.block⟩
theorem iM{b:Nat}{f:Nat->Value}(h:w.rowIs b t n f)(k:Nat):(w.drewN k).rowIs b t n f:=h
theorem Gn{k:IntKind}{a b:Int}(h:a=b):Ending.returned (.int k a)=.returned (.int k b):=by rw[h]
theorem box_of{cs:Array Value}(hB:Below (w.heap.size+1) (w.alloc (.cells cs t)) w1):
 (∀i,w1.cell? ⟨w.heap.size,i,none⟩=cs[i]?)/\(∀i,w1.frozen? ⟨w.heap.size,i,none⟩=false)/\Below w.heap.size w w1/\w.heap.size<w1.heap.size:=by have a:w1.heap[w.heap.size]? = some (.cells cs t (0,0)):=(hB.block w.heap.size (by omega)).trans (heap_alloc_new w _);refine⟨λi=>cell_of_row w1 _ i cs t (0,0) a,λi=>by simp[World.frozen?,a],((kqk _ _).alloc (kqa _) _).trans (hB.mono (by omega)),?_⟩;have:=hB.size;simp at this;omega
def Bx (w:World) (g:Nat) (t:TypeId) (cs:Array Value):Prop:=w.heap[g]? = some (.cells cs t (0,0))
section
variable {w w':World} {g B:Nat} {t:TypeId} {cs:Array Value}
theorem Bx.lt(h:Bx w g t cs):g<w.heap.size:=by
 rcases kq6 g w.heap.size with b|a
 .exact b
 unfold Bx at h;rw[kx4 a] at h;cases h
theorem Bx.cell(h:Bx w g t cs)(i:Nat):w.cell? ⟨g,i,none⟩=cs[i]?:=cell_of_row w g i cs t (0,0) h
theorem Bx.frozen(h:Bx w g t cs)(i:Nat):w.frozen? ⟨g,i,none⟩=false:=by unfold Bx at h;simp[World.frozen?,h]
theorem Bx.new(w:World)(t:TypeId)(cs:Array Value):Bx (w.alloc (.cells cs t)) w.heap.size t cs:=heap_alloc_new w _
theorem Bx.alloc(h:Bx w g t cs)(o:Obj):Bx (w.alloc o) g t cs:=(Below.heap_alloc w o g h.lt).trans h
theorem Bx.far(h:Bx w g t cs)(hp:g≠p.block)(u:Value):Bx (w.setCell p u) g t cs:=(kkm w p u g hp).trans h
theorem Bx.up(h:Bx w g t cs)(hb:Below B w w')(hg:g<B):Bx w' g t cs:=(hb.block g hg).trans h
theorem Bx.set_(h:Bx w g t cs)(i:Nat)(u:Value):Bx (w.setCell ⟨g,i,none⟩ u) g t (cs.setIfInBounds i u):=by unfold Bx at h |-;simp[World.setCell,Array.getElem?_modify,h]
theorem Bx.of_new(hB:Below (w.heap.size+1) (w.alloc (.cells cs t)) w'):Bx w' w.heap.size t cs:=(Bx.new w t cs).up hB (by omega)
theorem Bx.c1(h:Bx w g t #[x]):w.cell? ⟨g,0,none⟩=some x/\w.frozen? ⟨g,0,none⟩=false/\g<w.heap.size:=⟨h.cell 0,h.frozen 0,h.lt⟩
theorem Bx.c2(h:Bx w g t #[x,y]):w.cell? ⟨g,0,none⟩=some x/\w.cell? ⟨g,1,none⟩=some y/\w.frozen? ⟨g,0,none⟩=false/\w.frozen? ⟨g,1,none⟩=false/\g<w.heap.size:=
 ⟨h.cell 0,h.cell 1,h.frozen 0,h.frozen 1,h.lt⟩
theorem Bx.c3{z:Value}(h:Bx w g t #[x,y,z]):w.cell? ⟨g,0,none⟩=some x/\w.cell? ⟨g,1,none⟩=some y/\w.cell? ⟨g,2,none⟩=some z /\
 w.frozen? ⟨g,0,none⟩=false/\w.frozen? ⟨g,1,none⟩=false/\w.frozen? ⟨g,2,none⟩=false/\g<w.heap.size:=
 ⟨h.cell 0,h.cell 1,h.cell 2,h.frozen 0,h.frozen 1,h.frozen 2,h.lt⟩
theorem Bx.c6{x0 x1 x2 x3 x4 x5:Value}(h:Bx w g t #[x0,x1,x2,x3,x4,x5]):w.cell? ⟨g,0,none⟩=some x0/\w.cell? ⟨g,1,none⟩=some x1/\w.cell? ⟨g,2,none⟩=some x2 /\
 w.cell? ⟨g,3,none⟩=some x3/\w.cell? ⟨g,4,none⟩=some x4/\w.cell? ⟨g,5,none⟩=some x5/\(∀i,w.frozen? ⟨g,i,none⟩=false)/\g<w.heap.size:=
 ⟨h.cell 0,h.cell 1,h.cell 2,h.cell 3,h.cell 4,h.cell 5,h.frozen,h.lt⟩
end
theorem ax(hB:Below (w.heap.size+1) (w.alloc o) w1):Below w.heap.size w w1:=((kqk _ _).alloc (kqa _) _).trans (hB.mono (by omega))
theorem dd(w:World)(cs:List Value)(t:TypeId):∀j u,cs[j]? = some u->(w.alloc (.cells cs.toArray t)).cell? ((⟨w.heap.size,0,none⟩:Addr).add j)=some u:=by
 intro j u a;have e:(⟨w.heap.size,0,none⟩:Addr).add j=⟨w.heap.size,j,none⟩:=by unfold Addr.add;split<;>simp_all
 rw[e,(Bx.new w t cs.toArray).cell j]
 simpa using a
theorem aO(hB:Below H w wr)(hH:H<=wr.heap.size)(hown:wr.ownsRow H e sz v n xs)(hg:(wr.alloc o).grownBy w1 v.ownBlock):Below H w w1:=
 (hB.alloc hH _).grown hg (aY hH) (λk a=>(hown.lt k a).1)
theorem bU(hB:Below H w wr)(hH:H<=wr.heap.size)(hown:wr.ownsRow H e sz v n xs)(hg:wr.grownBy w1 v.ownBlock):Below H w w1:=
 hB.grown hg hH (λk a=>(hown.lt k a).1)
theorem Bx.grown{cs:Array Value}{row:Option Nat}(h:Bx w g t cs)(hb:w.grownBy w' row)(hg:some g≠row):Bx w' g t cs:=(hb.block g h.lt hg).trans h
theorem bD(hown:w.ownsRow H e sz v n xs)(hg:g<H):some g≠v.ownBlock:=λh=>by have:=(hown.lt g h.symm).1;omega
theorem aS(hown:w.ownsRow H e sz v n xs):∃A c,v=.slice A n c:=by
 rcases hown.2 with⟨rfl,rfl⟩|⟨g,cap,cur,rfl,_⟩
 .exact ⟨none,0,rfl⟩
 exact⟨_,_,rfl⟩
theorem ak(h:w.ownsRow H e sz v n xs)(hb:Below B w w')(hB:w.heap.size<=B):w'.ownsRow H e sz v n xs:=by
 refine⟨h.1,?_⟩;rcases h.2 with i|⟨g,d,c,j,f,b,a⟩
 .exact .inl i
 exact .inr ⟨g,d,c,j,f,(hb.block g (by have:=(kjo.1 b).1;omega)).trans b,a⟩
theorem cP(f:α->List Value)(l:List α)(x:α):(l++[x]).flatMap f=l.flatMap f++f x:=by simp
def En.ok (e:En):Prop:=-9223372036854775808<=e.a/\e.a<=9223372036854775807/\e.v<18446744073709551616
structure Ch where
 A:Option Addr
 c:Nat
 l:List En
 deriving Inhabited
def Ch.cells (x:Ch):List Value:=[.slice x.A x.l.length x.c]
def RdC (w:World) (B:Nat) (A:Option Addr) (l:List Ch):Prop:=Rd w B A (l.flatMap Ch.cells)
theorem Ch.len(x:Ch):x.cells.length=1:=rfl
theorem RdC.at_{l:List Ch}(h:RdC w B A l)(hk:k<l.length):
 ∃b a,A=some ⟨b,a,none⟩/\b<B/\w.cell? ⟨b,a+k,none⟩=some (.slice l[k].A l[k].l.length l[k].c):=by obtain⟨b,a,e,d,f⟩:=Rd.at_flat Ch.len h (by omega) hk;have:=f 0 (by omega);simp only[kxh,kz8] at this;exact⟨b,a,e,d,this⟩
def aF (l:List En):List Int:=l.map En.a
theorem aZ(l:List En):(aF l).length=l.length:=by simp[aF]
theorem ey(l:List En)(k:Nat)(h:k<l.length):(aF l)[k]?.getD 0=l[k].a:=by simp[aF,h]
theorem am{M:Nat}(h:w.ownsRow M e sz v n xs)(hH:H<=M):w.ownsRow H e sz v n xs:=by
 refine⟨h.1,?_⟩;rcases h.2 with d|⟨g,c,b,f,hb1,a⟩
 .exact .inl d
 exact .inr ⟨g,c,b,f,by omega,a⟩
theorem fD{H':Nat}{e':TypeId}{sz' n':Nat}{v':Value}{xs':List Value}(h:w.ownsRow H e sz v n xs)(h':w.ownsRow H' e' sz' v' n' xs')(hne:e≠e'):v.ownBlock=none\/v.ownBlock≠v'.ownBlock:=by
 rcases h.2 with⟨rfl,_⟩|⟨g,cap,cur,rfl,_,b,_⟩
 .exact .inl rfl
 right;rcases h'.2 with⟨rfl,_⟩|⟨g',cap',cur',rfl,_,a,_⟩
 .simp[Value.ownBlock]
 simp only[Value.ownBlock,ne_eq,Option.some.injEq];rintro rfl;rw[b] at a;simp only[Option.some.injEq,Obj.cells.injEq] at a;exact hne a.2.1
theorem lx(f:α->List Value)(hf:∀x,(f x).length=1)(l:List α)(n:Nat):(l.take n).flatMap f=(l.flatMap f).take n:=by
 induction l generalizing n with
 | nil=>simp
 | cons x l ih =>
  have a:=hf x
  match hfx:f x,a with
  | [u],_ =>
   cases n with
   | zero=>simp
   | succ n=>simp[List.flatMap_cons,hfx,ih]
theorem oj(f:α->List Value)(hf:∀x,(f x).length=1)(l:List α)(n:Nat):(l.drop n).flatMap f=(l.flatMap f).drop n:=by
 induction l generalizing n with
 | nil=>simp
 | cons x l ih =>
  have a:=hf x
  match hfx:f x,a with
  | [u],_ =>
   cases n with
   | zero=>simp
   | succ n=>simp[List.flatMap_cons,hfx,ih]
def gp (H:Nat) (err:Int) (out:List En) (e:Ending) (w':World):Prop:=∃A c,e=.returned (.tuple #[.slice A out.length c,.int .i64 err])/\w'.ownsRow H 89 2 (.slice A out.length c) out.length (out.flatMap En.cells)
theorem bE{err r:Int}{out:List En}(h1:err=r)(h2:out=[]):gp H err out (.returned (.tuple #[.slice none 0 0,.int .i64 r])) w':=by subst h1 h2;exact⟨none,0,rfl,kza _ _ _ _⟩
def gk (l:List Bk) (k:Nat):Bk:=l[k]?.getD default
theorem bM(l:List Bk)(k:Nat)(h:k<l.length):gk l k=l[k]:=by simp[gk,h]
def BC (b:Bk):Bool:=(b.kind==1||b.kind==2)&&((decide (2<=b.size)&&(decide (b.size<=2048)&&b.size%2==0))&&(decide (128<=b.at_)&&(b.at_%2==0&&decide (b.at_<=2048-b.size))))
def dy (l:List Bk):Nat->Int
 | 0=>128
 | k+1=>(gk l k).at_+(gk l k).size
def cH (l:List Bk):Nat->Bool
 | 0=>true
 | k+1=>cH l k&&(BC (gk l k)&&(decide (k=0)||(gk l k).at_==dy l k))
def Am (l:List Bk):Bool:=decide (l.length<=1024)&&cH l l.length
def bT (l:List Bk):Int:=if Am l then 0 else 8
theorem fi(h:cH l n=true)(hk:k<=n):cH l k=true:=by
 induction n with
 | zero =>
  have:k=0:=by omega
  subst this;exact h
 | succ n ih =>
  rcases kq6 k (n+1) with a|a
  .simp only[cH,kqo] at h;exact ih h.1 (by omega)
  have:k=n+1:=by omega
  subst this;exact h
theorem dI(h:cH l n=true)(hk:k<n):BC (gk l k)=true/\(k=0\/(gk l k).at_=dy l k):=by have:=fi h (show k+1<=n from hk);simp only[cH,kqo,kxw,kzc,kqw] at this;exact this.2
theorem rH(h:1024<l.length):bT l=8:=by
 have:¬ l.length<=1024:=by omega
 simp[bT,Am,this]
theorem uV(h:cH l k=false)(hk:k<=l.length):bT l=8:=by
 have:cH l l.length=false:=by
  cases a:cH l l.length with
  | false=>rfl
  | true=>rw[fi a hk] at h;cases h
 simp[bT,Am,this]
theorem qz(h:l.length<=1024)(hk:cH l l.length=true):bT l=0:=by simp[bT,Am,h,hk]
theorem cV(h:bT l=0):l.length<=1024/\cH l l.length=true:=by
 unfold bT Am at h;split at h
 .rename_i h1
  simpa using h1
 simp at h
theorem vI(l:List Bk):bT l=0\/bT l=8:=by unfold bT;split<;>simp
theorem eE(b:Bk):BC b=true↔(b.kind=1\/b.kind=2)/\2<=b.size/\b.size<=2048/\b.size%2=0/\128<=b.at_/\b.at_%2=0/\b.at_<=2048-b.size:=by
 simp only[BC,kqo,kxw,kqw,kzc];constructor
 .rintro ⟨c,⟨a,f,g⟩,e,h,d⟩;exact⟨c,a,f,g,e,h,d⟩
 rintro ⟨c,a,f,g,e,h,d⟩;exact⟨c,⟨a,f,g⟩,e,h,d⟩
theorem yi(h:BC (gk l k)=false):cH l (k+1)=false:=by simp[cH,h]
theorem wh(h0:k≠0)(h:(gk l k).at_≠dy l k):cH l (k+1)=false:=by
 have:((gk l k).at_==dy l k)=false:=by rw[kqj];exact h
 simp[cH,this,h0]
theorem oH(hp:cH l k=true)(h:BC (gk l k)=true)(hn:k=0\/(gk l k).at_=dy l k):cH l (k+1)=true:=by
 rcases hn with a|a
 .subst a;simp[cH,h]
 simp[cH,hp,h,a]
theorem nZ(h:cH l k=true):128<=dy l k/\dy l k<=2048:=by
 cases k with
 | zero=>simp[dy]
 | succ k =>obtain⟨a,_⟩:=dI h (kjp k);have:=(eE _).1 a;simp only[dy];omega
def aV (b:Bk):Bool:=b.kind==1&&b.mark
def bj:List Bk->Int->List Int
 | [],_=>[]
 | b::l,s=>if aV b then s::bj l (s+b.size) else 0::bj l s
def aI:List Bk->Int->Int
 | [],s=>s
 | b::l,s=>if aV b then aI l (s+b.size) else aI l s
def gG:List Bk->Int
 | []=>0
 | b::l=>if aV b then gG l else b.size+gG l
def nB (l:List Bk):Int:=if l.length=0 then 2048 else (gk l 0).at_
def eC (l:List Bk) (s:Int):Int:=if bT l=0 then (if s<128 then 2 else if nB l<s then 2 else if s%2=0 then 0 else 2) else 8
theorem cR(l:List Bk)(s:Int):(bj l s).length=l.length:=by
 induction l generalizing s with
 | nil=>rfl
 | cons b l ih=>simp only[bj];split<;>simp[ih]
theorem gw(a b:List Bk)(s:Int):aI (a++b) s=aI b (aI a s):=by
 induction a generalizing s with
 | nil=>rfl
 | cons x a ih=>simp only[kzg,aI];split<;>exact ih _
theorem ju(a b:List Bk)(s:Int):bj (a++b) s=bj a s++bj b (aI a s):=by
 induction a generalizing s with
 | nil=>rfl
 | cons x a ih=>simp only[kzg,bj,aI];split<;>simp[ih]
theorem pM(a b:List Bk):gG (a++b)=gG a+gG b:=by
 induction a with
 | nil=>simp[gG]
 | cons x a ih=>simp only[kzg,gG];split<;>omega
theorem gX(h:k<l.length)(s:Int):aI (l.take (k+1)) s=if aV l[k] then aI (l.take k) s+l[k].size else aI (l.take k) s:=by rw[kqn h,gw];rfl
theorem ku(h:k<l.length)(s:Int):bj (l.take (k+1)) s=bj (l.take k) s++[if aV l[k] then aI (l.take k) s else 0]:=by rw[kqn h,ju];simp only[bj];split<;>rfl
theorem sQ(h:k<l.length):gG (l.take (k+1))=if aV l[k] then gG (l.take k) else gG (l.take k)+l[k].size:=by rw[kqn h,pM];simp only[gG];split<;>omega
def nC (l:List Bk) (k:Nat):Int:=if k=0 then 0 else dy l k-(gk l 0).at_
theorem oB(h:cH l k=true)(hk:k<=l.length)(s:Int):0<=aI (l.take k) s-s/\0<=gG (l.take k)/\(aI (l.take k) s-s)+gG (l.take k)=nC l k/\nC l k<=1920:=by
 induction k with
 | zero=>simp[aI,gG,nC]
 | succ k ih =>
  have a:k<l.length:=by omega
  obtain⟨i1,i2,i3,i4⟩:=ih (fi h (kxi k)) (by omega);obtain⟨d,b⟩:=dI h (kjp k);have d:=(eE _).1 d;have hb0:=(eE _).1 (dI h (Nat.succ_pos k)).1;rw[gX a,sQ a];have e:nC l (k+1)=nC l k+(gk l k).size:=by
   unfold nC;rw[if_neg (Nat.succ_ne_zero k),show dy l (k+1)=(gk l k).at_+(gk l k).size from rfl];by_cases c:k=0
   .subst c;rw[if_pos rfl];omega
   rw[if_neg c];rcases b with b|b
   .exact absurd b c
   omega
  have f:nC l (k+1)<=1920:=by unfold nC;rw[if_neg (Nat.succ_ne_zero k),show dy l (k+1)=(gk l k).at_+(gk l k).size from rfl];omega
  rw[e] at f |-;rw[<-bM l k a];split<;>omega
theorem yA(h:bT l=0):nB l<=2048:=by
 unfold nB;split
 .omega
 have:=(eE _).1 (dI (cV h).2 (show 0<l.length by omega)).1;omega
theorem kn(h:bT l=0)(hk:k<=l.length)(hs:128<=s)(hm:s<=nB l):128<=aI (l.take k) s/\aI (l.take k) s<=2048:=by
 obtain⟨h1,a⟩:=cV h;have hmb:=yA h;obtain⟨i1,i2,c,i4⟩:=oB (fi a hk) hk s;refine⟨by omega,?_⟩;by_cases b:k=0
 .subst b;simp[aI];omega
 have hn:=(nZ (fi a hk)).2;have d:l.length≠0:=by omega
 simp only[nC,b,if_false] at c;simp only[nB,d,if_false] at hm;omega
theorem xK{xs:Int}(hx:gk l k=⟨xa,xs,xk,xt,xm,xn⟩)(hn:dy l k=nx)(h:¬ ((xk=1\/xk=2)/\2<=xs/\xs<=2048/\xs%2=0/\128<=xa/\xa%2=0/\xa<=2048-xs/\(k=0\/xa=nx))):cH l (k+1)=false:=by
 by_cases b:BC (gk l k)=true
 .have a:=(eE _).1 b;rw[hx] at a;dsimp only at a;refine wh (by omega) ?_;rw[hx,hn];dsimp only;omega
 exact yi (by cases hq:BC (gk l k)<;>simp_all)
theorem rL{xs:Int}(hx:gk l k=⟨xa,xs,xk,xt,xm,xn⟩)(hn:dy l k=nx)(hp:cH l k=true)(h:(xk=1\/xk=2)/\2<=xs/\xs<=2048/\xs%2=0/\128<=xa/\xa%2=0/\xa<=2048-xs/\(k=0\/xa=nx)):cH l (k+1)=true:=by
 refine oH hp ((eE _).2 ?_) ?_
 .rw[hx];dsimp only;omega
 rw[hx,hn];dsimp only;omega
theorem Hj(h:bT l≠0):eC l s=bT l:=by
 rcases vI l with a|a
 .exact absurd a h
 simp[eC,a]
theorem E9(h:bT l=0)(h2:s<128\/nB l<s\/s%2≠0):eC l s=2:=by
 unfold eC;rw[if_pos h];by_cases a:s<128
 .rw[if_pos a]
 rw[if_neg a];by_cases b:nB l<s
 .rw[if_pos b]
 rw[if_neg b,if_neg (by omega)]
theorem AQ(h:bT l=0)(h2:128<=s/\s<=nB l/\s%2=0):eC l s=0:=by unfold eC;rw[if_pos h,if_neg (by omega),if_neg (by omega),if_pos h2.2.2]
theorem eO(h:eC l s=0):bT l=0/\128<=s/\s<=nB l/\s%2=0:=by
 unfold eC at h;split at h
 .split at h
  .simp at h
  split at h
  .simp at h
  split at h
  .exact ⟨by assumption,by omega,by omega,by assumption⟩
  simp at h
 simp at h
theorem sI(h:bT l=0)(hm:s<=nB l)(hk:k<l.length):aI (l.take k) s<=(gk l k).at_:=by
 obtain⟨h1,b⟩:=cV h;obtain⟨i1,i2,d,i4⟩:=oB (fi b (kxr hk)) (kxr hk) s;have e:l.length≠0:=by omega
 simp only[nB,e,if_false] at hm;by_cases a:k=0
 .subst a;simp[aI];exact hm
 simp only[nC,a,if_false] at d;rcases (dI b hk).2 with c|c
 .exact absurd c a
 omega
theorem sb(hk:k<l.length):(bj l s)[k]? = some (if aV (gk l k) then aI (l.take k) s else 0):=by
 have a:=ku hk s;have b:bj l s=bj (l.take (k+1)) s++bj (l.drop (k+1)) (aI (l.take (k+1)) s):=by rw[<-ju,kz9]
 have c:(bj (l.take k) s).length=k:=by rw[cR,kq3];omega
 rw[b,a,kxs,kxe (by omega),c,bM l k hk];simp
def Ep (s b:Nat):Nat:=((s ^^^ b)*1099511628211)%18446744073709551616
def iU (w i:Nat):Nat:=w/256 ^ i%256
def By (s w:Nat):Nat->Nat
 | 0=>s
 | k+1=>Ep (By s w k) (iU w k)
def fnvW (s w:Nat):Nat:=By s w 8
def aR (s:Nat):List Nat->Nat
 | []=>s
 | w::l=>aR (fnvW s w) l
def iX (w:Nat):Nat:=fnvW 14695981039346656037 w
theorem qA(w i:Nat):iU w i<256:=kz4 _ (by omega)
theorem FT(s b:Nat):Ep s b<18446744073709551616:=kz4 _ (by omega)
theorem rZ{s:Nat}(hs:s<18446744073709551616)(w k:Nat):By s w k<18446744073709551616:=by
 cases k with
 | zero=>exact hs
 | succ k=>exact FT _ _
theorem Gk{s:Nat}(hs:s<18446744073709551616)(w:Nat):fnvW s w<18446744073709551616:=rZ hs w 8
theorem ii{s:Nat}(hs:s<18446744073709551616)(l:List Nat):aR s l<18446744073709551616:=by
 induction l generalizing s with
 | nil=>exact hs
 | cons w l ih=>exact ih (Gk hs w)
theorem nD(s:Nat)(a b:List Nat):aR s (a++b)=aR (aR s a) b:=by
 induction a generalizing s with
 | nil=>rfl
 | cons w a ih=>exact ih _
theorem lY{l:List Nat}(h:k<l.length)(s:Nat):aR s (l.take (k+1))=fnvW (aR s (l.take k)) l[k]:=by rw[kqn h,nD];rfl
theorem GP(s b:Nat)(hb:b<256):s-s%256+((s%256) ^^^ b)=s ^^^ b:=by
 have c:(s%256) ^^^ b<2 ^ 8:=Nat.xor_lt_two_pow (kz4 _ (by omega)) hb;have d:s-s%256=2 ^ 8*(s/256):=by have:=Nat.div_add_mod s 256;omega
 apply Nat.eq_of_testBit_eq;intro j;rw[d,Nat.testBit_two_pow_mul_add _ c,Nat.testBit_xor];split
 .rename_i hj;rw[Nat.testBit_xor,show (256:Nat)=2 ^ 8 from rfl,Nat.testBit_mod_two_pow];simp[hj]
 rename_i hj;have a:b.testBit j=false:=Nat.testBit_lt_two_pow (kjb hb (by
  have:2 ^ 8<=2 ^ j:=kxz (by omega) (by omega)
  simpa using this))
 rw[Nat.testBit_xor,a,Bool.xor_false,show (256:Nat)=2 ^ 8 from rfl,<-Nat.shiftRight_eq_div_pow,Nat.testBit_shiftRight];congr 1;omega
def jO (b:Bk):Bool:=(decide (2<=b.size)&&b.size%2==0)&&((b.kind==1&&(decide (0<=b.typ)&&(decide (b.typ<8)&&decide (b.size<=10))))||(b.kind==2&&(b.typ==0&&(!b.mark&&decide (b.size<=1920)))))
theorem bt(b:Bk):jO b=true↔(2<=b.size/\b.size%2=0)/\(b.kind=1/\0<=b.typ/\b.typ<8/\b.size<=10\/b.kind=2/\b.typ=0/\b.mark=false/\b.size<=1920):=by simp only[jO,kqo,kxw,kqw,kzc,kx6]
def qd (m:Bool):Nat:=if m then 1 else 0
def kV (b:Bk):Nat:=b.kind.toNat+qd b.mark*256+b.typ.toNat*512+b.size.toNat*65536
def da (b:Bk):Nat:=kV b+iX (kV b)%4294967296*4294967296
def ar (w:Nat):Bk:=⟨0,(w/65536%65536:Nat),(w%256:Nat),(w/512%128:Nat),w/256%2==1,0⟩
def aM (w:Nat):Bool:=jO (ar w)&&da (ar w)==w
theorem zP(m:Bool):qd m<=1:=by cases m<;>simp[qd]
theorem sM(h:jO b=true):b.kind.toNat<256/\b.typ.toNat<128/\b.size.toNat<65536/\0<=b.kind/\0<=b.typ/\0<=b.size/\b.size<=1920:=by have:=(bt b).1 h;omega
theorem tG(h:jO b=true):kV b<4294967296:=by obtain⟨h1,h2,h3,-⟩:=sM h;have:=zP b.mark;unfold kV;omega
theorem oZ(h:jO b=true):da b<18446744073709551616:=by have h1:=tG h;have h2:iX (kV b)%4294967296<4294967296:=kz4 _ (by omega);unfold da;omega
theorem mw(h:jO b=true):ar (da b)=⟨0,b.size,b.kind,b.typ,b.mark,0⟩:=by
 obtain⟨h1,h2,h3,h4,h5,h6,h7⟩:=sM h;have hm:=zP b.mark;unfold ar da;generalize iX (kV b)%4294967296=t;have hl:kV b=b.kind.toNat+qd b.mark*256+b.typ.toNat*512+b.size.toNat*65536:=rfl;generalize kV b=q at *;generalize a:qd b.mark=m at *;have f:(q+t*4294967296)/65536%65536=b.size.toNat:=by omega
 have d:(q+t*4294967296)%256=b.kind.toNat:=by omega
 have e:(q+t*4294967296)/512%128=b.typ.toNat:=by omega
 have c:(q+t*4294967296)/256%2=m:=by omega
 rw[f,d,e,c];congr 1
 .omega
 .omega
 .omega
 rw[<-a];cases b.mark<;>simp[qd]
theorem vq{a:Bk}(h1:a.size=b.size)(h2:a.kind=b.kind)(h3:a.typ=b.typ)(h4:a.mark=b.mark):da a=da b/\jO a=jO b:=by unfold da kV jO;rw[h1,h2,h3,h4];exact⟨rfl,rfl⟩
theorem n9(h:jO b=true):aM (da b)=true:=by unfold aM;rw[mw h];have:=vq (a:=⟨0,b.size,b.kind,b.typ,b.mark,0⟩) (b:=b) rfl rfl rfl rfl;rw[this.1,this.2,h];simp
def wd (ws:List Nat) (i:Nat):Nat:=ws[i]?.getD 0
def bkAt (ws:List Nat) (i:Nat):Bk:={ ar (wd ws i) with at_:=(i:Nat),next:=wd ws (i+1) }
def stands (ws:List Nat) (i:Nat):Bool:=aM (wd ws i)&&decide ((ar (wd ws i)).size<=(ws.length:Int)-i)
def szAt (ws:List Nat) (i:Nat):Nat:=wd ws i/65536%65536
def nc (ws:List Nat):Nat->Nat->Option (List Bk)
 | 0,i=>if ws.length<=i then some [] else none
 | f+1,i=>if ws.length<=i then some [] else if stands ws i then (nc ws f (i+szAt ws i)).map (bkAt ws i :: ·) else none
def blocks (ws:List Nat) (i:Nat):Option (List Bk):=nc ws ws.length i
theorem aG(h:stands ws i=true):2<=szAt ws i/\szAt ws i%2=0/\i+szAt ws i<=ws.length:=by unfold stands aM at h;simp only[kqo,kzc] at h;obtain⟨⟨a,_⟩,b⟩:=h;have c:=(bt _).1 a;simp only[ar] at b c;unfold szAt;omega
theorem nP{f:Nat}(h:ws.length-i<=f):∀ {g:Nat},ws.length-i<=g->nc ws f i=nc ws g i:=by
 induction f generalizing i with
 | zero =>
  intro g _;cases g with
  | zero=>rfl
  | succ g=>simp only[nc];rw[if_pos (by omega),if_pos (by omega)]
 | succ f ih =>
  intro g hg;cases g with
  | zero=>simp only[nc];rw[if_pos (by omega),if_pos (by omega)]
  | succ g =>
   simp only[nc];split
   .rfl
   split
   .rename_i hs;have:=aG hs;rw[ih (i:=i+szAt ws i) (by omega) (g:=g) (by omega)]
   rfl
theorem aE(h:ws.length<=i):blocks ws i=some []:=by
 unfold blocks;cases a:ws.length with
 | zero=>simp[nc,a]
 | succ n=>rw[nc,if_pos (by omega)]
theorem aP(h:i<ws.length)(hs:stands ws i=true):blocks ws i=(blocks ws (i+szAt ws i)).map (bkAt ws i :: ·):=by have hsz:=aG hs;unfold blocks;rw[nP (f:=ws.length) (i:=i) (by omega) (g:=ws.length+1) (by omega),nc,if_neg (by omega),if_pos hs]
theorem dP(h:i<ws.length)(hs:stands ws i=false):blocks ws i=none:=by unfold blocks;rw[nP (f:=ws.length) (i:=i) (by omega) (g:=ws.length+1) (by omega),nc,if_neg (by omega),if_neg (by rw[hs];exact Bool.false_ne_true)]
def fc (a:Nat):List Nat:=(List.range (a%256)).map λi=>a/4 ^ (i+4)%4
def qZ:List Nat->Nat->Nat
 | [],_=>0
 | k::l,j=>k*4 ^ j+qZ l (j+1)
def iN (l:List Nat):Nat:=l.length+qZ l 4
def eV (l:List Nat):Bool:=l.all λk=>decide (1<=k)&&decide (k<=3)
def cI (l:List Nat):Int:=if 8<l.length then 4 else if eV l=true then 0 else 8
def bZ (n:Nat):Nat:=2+(n+1)/2*2
def cw (a b:Nat):Bool:=(decide (a%256<=8)&&eV (fc a))&&(iN (fc a)==a&&iX a==b)
theorem fP(a:Nat):(fc a).length=a%256:=by simp[fc]
theorem ur(a i:Nat)(h:i<a%256):(fc a)[i]? = some (a/4 ^ (i+4)%4):=by simp[fc,h]
theorem sw(a b:List Nat)(j:Nat):qZ (a++b) j=qZ a j+qZ b (j+a.length):=by
 induction a generalizing j with
 | nil=>simp[qZ]
 | cons k a ih=>simp only[kzg,qZ,ih,kq1];rw[show j+1+a.length=j+(a.length+1) by omega];omega
theorem sj(l:List Nat)(j:Nat)(h:∀k∈l,k<=3):qZ l j+4 ^ j<=4 ^ (j+l.length):=by
 induction l generalizing j with
 | nil=>simp[qZ]
 | cons k l ih =>have c:=ih (j+1) (λk a=>h k (by simp[a]));have b:=h k (by simp);simp only[qZ,kq1];rw[show j+(l.length+1)=j+1+l.length by omega];have h3:k*4 ^ j<=3*4 ^ j:=kxn _ b;rw[kj0] at c;omega
theorem cQ(l:List Nat):eV l=true↔∀k∈l,1<=k/\k<=3:=by simp[eV]
theorem xD{l:List Nat}(hk:k<l.length)(h:l[k]<1\/3<l[k]):eV l=false:=by
 cases a:eV l with
 | false=>rfl
 | true=>have:=(cQ l).1 a l[k] (kqp hk);omega
theorem rY{l:List Nat}(h:8<l.length):cI l=4:=by simp[cI,h]
theorem ll{l:List Nat}(h:l.length<=8)(hk:eV l=false):cI l=8:=by
 have:¬ 8<l.length:=by omega
 simp[cI,this,hk]
theorem jr{l:List Nat}(h:l.length<=8)(hk:eV l=true):cI l=0:=by
 have:¬ 8<l.length:=by omega
 simp[cI,this,hk]
theorem jW{l:List Nat}(h:cI l=0):l.length<=8/\eV l=true:=by
 unfold cI at h;split at h
 .simp at h
 split at h
 .exact ⟨by omega,by assumption⟩
 simp at h
theorem yN{l:List Nat}(h:l.length<=8)(hk:eV l=true):iN l<16777216:=by
 have h1:=sj l 4 (λk a=>((cQ l).1 hk k a).2);have h2:4 ^ (4+l.length)<=4 ^ 12:=kxz (by omega) (by omega);have h3:(4:Nat) ^ 12=16777216:=by decide
 have h4:(4:Nat) ^ 4=256:=by decide
 unfold iN;omega
def tyA (b:Bk):Nat:=96+2*b.typ.toNat
def cK (ws:List Nat) (b:Bk):Bool:=cw (wd ws (tyA b)) (wd ws (tyA b+1))&&b.size==((bZ (wd ws (tyA b)%256):Nat):Int)
def du (ws:List Nat) (b:Bk):Bool:=b.kind != 1||cK ws b
def bL (ws:List Nat):List Bk->Int->Bool
 | [],_=>true
 | b::l,s=>du ws b&&(if aV b then ((b.next:Int)==s)&&bL ws l (s+b.size) else bL ws l s)
def az:List Bk->Int->List (Int × Int)
 | [],_=>[]
 | b::l,s=>if aV b then (b.at_,s)::az l (s+b.size) else az l s
theorem l7(ws:List Nat)(a b:List Bk)(s:Int):bL ws (a++b) s=(bL ws a s&&bL ws b (aI a s)):=by
 induction a generalizing s with
 | nil=>simp[bL,aI]
 | cons x a ih =>
  simp only[kzg,bL,aI];split
  .rw[ih];simp only[Bool.and_assoc]
  rw[ih];simp only[Bool.and_assoc]
theorem fm(a b:List Bk)(s:Int):az (a++b) s=az a s++az b (aI a s):=by
 induction a generalizing s with
 | nil=>rfl
 | cons x a ih=>simp only[kzg,az,aI];split<;>simp[ih]
theorem oI(h:k<l.length)(s:Int):bL ws (l.take (k+1)) s=(bL ws (l.take k) s&&(du ws l[k]&&(!aV l[k]||(l[k].next:Int)==aI (l.take k) s))):=by rw[kqn h,l7];simp only[bL];cases aV l[k]<;>simp
theorem vU(h:k<l.length)(s:Int):az (l.take (k+1)) s=az (l.take k) s++(if aV l[k] then [(l[k].at_,aI (l.take k) s)] else []):=by rw[kqn h,fm];simp only[az]
theorem oq(h:bL ws l s=true)(k:Nat):bL ws (l.take k) s=true:=by rw[<-kz9 k l,l7,kqo] at h;exact h.1
theorem rm(h:bL ws (l.take k) s=false):bL ws l s=false:=by
 cases a:bL ws l s with
 | false=>rfl
 | true=>rw[oq a k] at h;cases h
theorem DF(h:bL ws l s=true)(hk:k<l.length):du ws l[k]=true/\(aV l[k]=true->(l[k].next:Int)=aI (l.take k) s):=by
 have a:=oq h (k+1);rw[oI hk] at a;simp only[kqo,kxw,kx6,kqw] at a;exact⟨a.2.1,λc=>by
  rcases a.2.2 with b|b
  .rw[c] at b;cases b
  exact b⟩
theorem dJ(P:Nat->List Bk->Prop)(h0:∀i,ws.length<=i->P i [])(h1:∀i l,i<ws.length->stands ws i=true->blocks ws (i+szAt ws i)=some l->P (i+szAt ws i) l->P i (bkAt ws i::l)):
 ∀i l,blocks ws i=some l->P i l:=by
 have c:∀n i l,ws.length-i<=n->blocks ws i=some l->P i l:=by
  intro n
  induction n with
  | zero =>intro i l e h;rw[aE (by omega)] at h;cases h;exact h0 i (by omega)
  | succ n ih =>
   intro i l e h;by_cases d:ws.length<=i
   .rw[aE d] at h;cases h;exact h0 i d
   cases a:stands ws i with
   | false=>rw[dP (by omega) a] at h;cases h
   | true =>
    have hsz:=aG a;rw[aP (by omega) a] at h;cases b:blocks ws (i+szAt ws i) with
    | none=>rw[b] at h;cases h
    | some l' =>rw[b] at h;simp only[kzt,Option.some.injEq] at h;subst h;exact h1 i l' (by omega) a b (ih _ _ (by omega) b)
 exact λi l h=>c _ i l (kqa _) h
theorem ab(ws:List Nat)(i:Nat):(bkAt ws i).at_=(i:Int):=rfl
theorem bC(ws:List Nat)(i:Nat):(bkAt ws i).size=((szAt ws i:Nat):Int):=rfl
theorem fE(h:stands ws i=true):jO (ar (wd ws i))=true:=by unfold stands aM at h;simp only[kqo] at h;exact h.1.1
theorem ix(b:Bk)(l:List Bk)(k:Nat):gk (b::l) (k+1)=gk l k:=by simp[gk]
theorem ns(b:Bk)(l:List Bk):gk (b::l) 0=b:=rfl
theorem zk(hn:ws.length<=2048)(h:stands ws i=true)(h1:128<=i)(h2:i%2=0):BC (bkAt ws i)=true:=by have h3:=(bt _).1 (fE h);have h4:=aG h;rw[eE];have a:(bkAt ws i).kind=(ar (wd ws i)).kind:=rfl;have e2:(ar (wd ws i)).size=((szAt ws i:Nat):Int):=rfl;rw[ab,bC,a];omega
theorem cd(hn:ws.length<=2048):∀i l,blocks ws i=some l->128<=i->i%2=0->i<=ws.length ->
 2*l.length+i<=ws.length/\∀k,k<l.length->BC (gk l k)=true/\(k=0->(gk l k).at_=(i:Int))/\(0<k->(gk l k).at_=(gk l (k-1)).at_+(gk l (k-1)).size):=by
 refine dJ _ (λi _ _ _ _=>⟨by simp;omega,λk a=>by simp at a⟩) (λi l hi c hb m f e _=>?_);have b:=aG c;obtain⟨h3,j⟩:=m (by omega) (by omega) b.2.2;refine⟨by rw[kq1];omega,λk a=>?_⟩;cases k with
 | zero=>exact⟨zk hn c f e,λ_=>rfl,λh=>absurd h (by omega)⟩
 | succ k =>
  rw[kq1] at a;obtain⟨n,g,d⟩:=j k (by omega);rw[ix];refine⟨n,λh=>absurd h (by omega),λ_=>?_⟩;rw[Nat.add_sub_cancel];cases k with
  | zero=>rw[ns,g rfl,ab,bC];omega
  | succ k=>rw[ix];exact d (by omega)
theorem nY(hn:ws.length<=2048)(h:blocks ws i=some l)(h1:128<=i)(h2:i%2=0)(h3:i<=ws.length):bT l=0:=by
 obtain⟨h4,d⟩:=cd hn i l h h1 h2 h3;refine qz (by omega) ?_;have b:∀k,k<=l.length->cH l k=true:=by
  intro k
  induction k with
  | zero=>intro _;rfl
  | succ k ih =>
   intro hk;obtain⟨e,g2,c⟩:=d k (by omega);refine oH (ih (by omega)) e ?_;rcases kjr k with a|a
   .exact .inl a
   right;obtain⟨m,rfl⟩:∃m,k=m+1:=⟨k-1,by omega⟩;exact c a
 exact b _ (kqa _)
theorem cj(h:blocks ws i=some l)(hi:i<ws.length):0<l.length/\gk l 0=bkAt ws i/\stands ws i=true/\blocks ws (i+szAt ws i)=some (l.drop 1):=by
 cases a:stands ws i with
 | false=>rw[dP hi a] at h;cases h
 | true =>
  rw[aP hi a] at h;cases b:blocks ws (i+szAt ws i) with
  | none=>rw[b] at h;cases h
  | some l' =>rw[b] at h;simp only[kzt,Option.some.injEq] at h;subst h;exact⟨by simp,rfl,rfl,by simp⟩
theorem kC(hn:ws.length<=2048)(h:blocks ws i=some l)(h1:128<=i)(h2:i%2=0)(h3:i<=ws.length)(hs:128<=s)(hs2:s%2=0)(hs3:s<=(i:Int)):eC l s=0:=by
 refine AQ (nY hn h h1 h2 h3) ⟨hs,?_,hs2⟩;unfold nB;split
 .omega
 rename_i hl;have:=(cd hn i l h h1 h2 h3).2 0 (by omega);rw[this.2.1 rfl];exact hs3
theorem jx:∀ {l:List Bk} {s:Int} {p:Nat},p<(az l s).length->∃k,∃h:k<l.length,aV l[k]=true/\(az l s)[p]? = some (l[k].at_,aI (l.take k) s)/\(az (l.take k) s).length=p:=by
 intro l
 induction l with
 | nil=>intro s p h;simp[az] at h
 | cons b l ih =>
  intro s p h;cases a:aV b with
  | true =>
   simp only[az,a,if_true] at h |-;cases p with
   | zero=>exact⟨0,by simp,a,by simp[aI],rfl⟩
   | succ p =>
    obtain⟨k,c,e,d,f⟩:=ih (s:=s+b.size) (p:=p) (by simpa using h);refine⟨k+1,by simpa using c,e,?_,?_⟩
    .simp only[List.getElem?_cons_succ,d,kqc,kxj,aI,a,if_true]
    simp only[kxj,az,a,if_true,kq1,f]
  | false =>
   simp only[az,a,kzs,if_false] at h |-;obtain⟨k,c,e,d,f⟩:=ih (s:=s) (p:=p) h;refine⟨k+1,by simpa using c,e,?_,?_⟩
   .simp only[d,kqc,kxj,aI,a,kzs,if_false]
   simp only[kxj,az,a,kzs,if_false,f]
theorem l6(ws:List Nat)(j v i:Nat):wd (ws.set j v) i=if j=i/\j<ws.length then v else wd ws i:=by
 unfold wd;by_cases h:j=i
 .subst h;by_cases a:j<ws.length
  .simp[a]
  simp[a]
 simp[h]
theorem gU(ws:List Nat)(v:Nat)(h:j≠i):wd (ws.set j v) i=wd ws i:=by rw[l6,if_neg (λa=>h a.1)]
def mT (j v:Nat) (b:Bk):Bk:=if b.at_+1=(j:Int) then { b with next:=v } else b
theorem lJ(v:Nat)(h:j≠i):stands (ws.set j v) i=stands ws i/\szAt (ws.set j v) i=szAt ws i:=by unfold stands szAt;rw[gU ws v h,kq4];exact⟨rfl,rfl⟩
theorem un{v:Nat}(h:j≠i)(hj:j<ws.length):bkAt (ws.set j v) i=mT j v (bkAt ws i):=by
 unfold bkAt mT;rw[gU ws v h,l6];by_cases e:j=i+1
 .rw[if_pos ⟨e,hj⟩,if_pos (by dsimp only;omega)]
 rw[if_neg (λa=>e a.1),if_neg (by dsimp only;omega)]
theorem vy{v:Nat}(hj:j%2=1)(hl:j<ws.length):∀i,i%2=0->blocks (ws.set j v) i=(blocks ws i).map (List.map (mT j v)):=by
 have b:∀n i,ws.length-i<=n->i%2=0->blocks (ws.set j v) i=(blocks ws i).map (List.map (mT j v)):=by
  intro n
  induction n with
  | zero=>intro i d _;rw[aE (by rw[kq4];omega),aE (by omega)];rfl
  | succ n ih =>
   intro i d h2;by_cases hi:ws.length<=i
   .rw[aE (by rw[kq4];omega),aE (by omega)];rfl
   obtain⟨c,e⟩:=lJ (ws:=ws) (j:=j) (i:=i) v (by omega);cases a:stands ws i with
   | false=>rw[dP (by rw[kq4];omega) (by rw[c,a]),dP (by omega) a];rfl
   | true =>have hsz:=aG a;rw[aP (by rw[kq4];omega) (by rw[c,a]),aP (by omega) a,e,ih _ (by omega) (by omega),un (by omega) hl];cases blocks ws (i+szAt ws i)<;>rfl
 exact λi=>b _ i (kqa _)
theorem lj(h:bT l=0){m:Nat}(hk:k<l.length)(hm:m<k):(gk l m).at_<(gk l k).at_:=by
 obtain⟨_,a⟩:=cV h
 induction k with
 | zero=>omega
 | succ k ih =>
  have d:=dI a (show k+1<l.length from hk);have h4:=(eE _).1 (dI a (show k<l.length by omega)).1;have e:(gk l (k+1)).at_=(gk l k).at_+(gk l k).size:=by
   rcases d.2 with c|c
   .omega
   exact c
  rcases kq6 m k with b|b
  .have:=ih (by omega) b;omega
  have:m=k:=by omega
  subst this;omega
theorem vK(h:bT l=0){v:Nat}(hk:k<l.length)(hj:l[k].at_+1=(j:Int)):l.map (mT j v)=l.set k { l[k] with next:=v }:=by
 apply List.ext_getElem (by simp);intro i a h2;have a:i<l.length:=by simpa using a
 rw[List.getElem_map,List.getElem_set];unfold mT;by_cases e:k=i
 .subst e;rw[if_pos hj,if_pos rfl]
 rw[if_neg e];rw[if_neg ?_];intro h3;have e2:(gk l i).at_=(gk l k).at_:=by rw[bM l i a,bM l k hk];omega
 rcases Nat.lt_or_gt_of_ne e with b|b
 .have:=lj h a b;omega
 have:=lj h hk b;omega
theorem vD{ws':List Nat}(hf:∀b∈l,du ws' b=du ws b)(hf2:∀b v,b∈l->du ws' { b with next:=v }=du ws b):∀ {s:Int},bL ws l s=true->∀ {k:Nat} (e:k<l.length),aV l[k]=true->∀v:Nat,
 bL ws' (l.set k { l[k] with next:=v }) s=((v:Int)==aI (l.take k) s)/\az (l.set k { l[k] with next:=v }) s=az l s:=by
 induction l with
 | nil=>intro s _ k e;simp at e
 | cons b l ih =>
  intro s h k e d v;have i:=hf b (by simp);have f:=hf2 b v (by simp);have g:∀(l:List Bk),(∀b∈l,du ws' b=du ws b)->∀s,bL ws' l s=bL ws l s:=by
   intro l d
   induction l with
   | nil=>intro s;rfl
   | cons c l ih2 =>intro s;simp only[bL];rw[d c (by simp),ih2 (λb a=>d b (by simp[a])),ih2 (λb a=>d b (by simp[a]))]
  cases k with
  | zero =>have d:aV b=true:=d;have m:aV { b with next:=v }=true:=d;simp only[bL,d,if_true,kqo] at h;simp only[kqf,kqd,bL,m,if_true,az,d,List.take_zero,aI,f,h.1,kzx];rw[g l (λb a=>hf b (by simp[a])),h.2.2,Bool.and_true];exact⟨rfl,trivial⟩
  | succ k =>
   have e:k<l.length:=by simpa using e
   have d:aV l[k]=true:=d;cases a:aV b with
   | true =>simp only[bL,a,if_true,kqo] at h;obtain⟨n,j⟩:=ih (λb a=>hf b (by simp[a])) (λb v a=>hf2 b v (by simp[a])) h.2.2 e d v;simp only[kqe,kqc,bL,a,if_true,az,kxj,aI,i,h.1,h.2.1,kzx,n,j];exact⟨trivial,trivial⟩
   | false =>simp only[bL,a,kzs,if_false,kqo] at h;obtain⟨n,j⟩:=ih (λb a=>hf b (by simp[a])) (λb v a=>hf2 b v (by simp[a])) h.2 e d v;simp only[kqe,kqc,bL,a,kzs,if_false,az,kxj,aI,i,h.1,kzx,n,j];exact⟨trivial,trivial⟩
def fJ (n:Nat) (f s:Int):Bool:=(f%2 != 0)||((s%2 != 0)||(decide (s<128)||(decide (f<s)||decide ((n:Int)<f))))
def sf (n:Nat):Bool:=decide (256<=n)&&(decide (n<=2048)&&n%8==0)
theorem gC(h:fJ n f s=false):f%2=0/\s%2=0/\128<=s/\s<=f/\f<=(n:Int):=by simp only[fJ,kzl,kqq,kqh] at h;omega
theorem kO(n:Nat)(f s:Int):fJ n f s=true↔¬ (f%2=0/\s%2=0/\128<=s/\s<=f/\f<=(n:Int)):=by
 constructor
 .intro h h2;have:fJ n f s=false:=by simp only[fJ,kzl,kqq,kqh];omega
  rw[this] at h;cases h
 intro h;cases a:fJ n f s with
 | true=>rfl
 | false=>exact absurd (gC a) h
def lq (ws:List Nat) (f s:Int):Int:=match blocks ws f.toNat with
 | none=>50
 | some l=>if bL ws l s=true then 0 else 50
def aW (ws:List Nat) (f s:Int):Int:=if sf ws.length=true then (if fJ ws.length f s=true then 2 else lq ws f s) else 8
def ia (ws:List Nat) (f s:Int):List (Int × Int):=if aW ws f s=0 then (match blocks ws f.toNat with | none=>[] | some l=>az l s) else []
theorem bQ(h:aW ws f s=0):sf ws.length=true/\fJ ws.length f s=false/\∃l,blocks ws f.toNat=some l/\bL ws l s=true/\ia ws f s=az l s:=by
 have b:=h;unfold aW at h;split at h
 .rename_i h1;split at h
  .simp at h
  rename_i h2;unfold lq at h;cases a:blocks ws f.toNat with
  | none=>rw[a] at h;simp at h
  | some l =>
   rw[a] at h;refine⟨h1,by simpa using h2,l,rfl,?_,?_⟩
   .dsimp only at h;split at h
    .assumption
    simp at h
   unfold ia;rw[if_pos b,a]
 simp at h
theorem iy(h1:sf ws.length=true)(h2:fJ ws.length f s=false)(h3:blocks ws f.toNat=some l):aW ws f s=if bL ws l s=true then 0 else 50:=by unfold aW lq;rw[if_pos h1,h2,h3];rfl
theorem mr(h:sf n=true):256<=n/\n<=2048/\n%8=0:=by simp[sf] at h;omega
theorem b9 :∀i l,blocks ws i=some l->i%2=0->∀k (h:k<l.length),∃a,l[k]=bkAt ws a/\a%2=0/\i<=a/\a<ws.length/\stands ws a=true/\blocks ws a=some (l.drop k):=by
 refine dJ _ (λi _ _ k h=>by simp at h) (λi l c b f n d k h=>?_);have hsz:=aG b;cases k with
 | zero=>exact⟨i,rfl,d,kqa _,c,b,by rw[aP c b,f];rfl⟩
 | succ k =>obtain⟨a,g,m,h5,o,e,j⟩:=n (by omega) k (by simpa using h);exact⟨a,g,m,by omega,o,e,j⟩
theorem Ew{w:Nat}(h:jO (ar w)=true)(hk:b.kind=(ar w).kind)(ht:b.typ=(ar w).typ)(h1:b.kind=1):tyA b+1<128:=by have:=(bt _).1 h;rw[<-hk,<-ht] at this;unfold tyA;omega
theorem Dh{v:Nat}(hj:128<=j){a:Nat}(hs:stands ws a=true)(u:Nat):du (ws.set j v) { bkAt ws a with next:=u }=du ws (bkAt ws a):=by
 have d:=fE hs;unfold du;show ((bkAt ws a).kind != 1||cK (ws.set j v) { bkAt ws a with next:=u })=_;by_cases c:(bkAt ws a).kind=1
 .have h2:=Ew (b:=bkAt ws a) d rfl rfl c;have f:wd (ws.set j v) (tyA (bkAt ws a))=wd ws (tyA (bkAt ws a)):=gU ws v (by omega);have e:wd (ws.set j v) (tyA (bkAt ws a)+1)=wd ws (tyA (bkAt ws a)+1):=gU ws v (by omega);unfold cK;show (_||(cw (wd (ws.set j v) (tyA (bkAt ws a))) (wd (ws.set j v) (tyA (bkAt ws a)+1))&&(bkAt ws a).size==((bZ (wd (ws.set j v) (tyA (bkAt ws a))%256):Nat):Int)))=_;rw[f,e]
 have:((bkAt ws a).kind != 1)=true:=by rw[kqu];exact c
 rw[this,kkj,kkj]
theorem vz(h:aW ws f s=0){p:Nat}(hp:p<(ia ws f s).length):∃a t:Nat,(ia ws f s)[p]? = some ((a:Int),(t:Int))/\128<=a/\a+1<ws.length/\wd ws (a+1)=t/\t<=2048 /\
 ∀v,(v=t->aW (ws.set (a+1) v) f s=0)/\(v≠t->aW (ws.set (a+1) v) f s=50):=by
 obtain⟨F,D,l,y,H,J⟩:=bQ h;obtain⟨a1,L,N,a4,a5⟩:=gC D;have g:=mr F;rw[J] at hp |-;obtain⟨k,o,G,O,-⟩:=jx hp;obtain⟨a,e,b1,b2,b3,K,-⟩:=b9 _ _ y (by omega) k o;have C:=kC (i:=f.toNat) g.2.1 y (by omega) (by omega) (by omega) (s:=s) N L (by omega);obtain⟨r,z,A,hs3⟩:=eO C;have hbd:=kn r (kxr o) z A;have x:=(DF H o).2 G;have hsz:=aG K;have c:a+1<ws.length:=by omega
 have n:wd ws (a+1)=l[k].next:=by rw[e];rfl
 have q:l[k].at_=(a:Int):=by rw[e];rfl
 refine⟨a,l[k].next,by rw[O,q,x],by omega,c,n,by omega,λv=>?_⟩;have w:=vy (ws:=ws) (j:=a+1) (v:=v) (by omega) c f.toNat (by omega);rw[y,kzt,vK r o (by rw[q];omega)] at w;have d:∀b∈l,∀u,du (ws.set (a+1) v) { b with next:=u }=du ws b:=by intro b g u;obtain⟨m,I,rfl⟩:=kq2 g;obtain⟨a',M,-,-,-,B,-⟩:=b9 _ _ y (by omega) m I;rw[M];exact Dh (by omega) B u
 obtain⟨P,-⟩:=vD (ws:=ws) (ws':=ws.set (a+1) v) (λb g=>by have:=d b g b.next;exact this) (λb u g=>d b g u) H o G v;rw[iy (by rw[kq4];exact F) (by rw[kq4];exact D) w,P,<-x];constructor
 .intro E;subst E;simp
 intro E;have:((v:Int)==(l[k].next:Int))=false:=by rw[kqj];omega
 rw[this];simp
def eP:List Nat->Nat->List Nat->List Nat
 | ws,_,[]=>ws
 | ws,t,v::l=>eP (ws.set t v) (t+1) l
theorem lC(l:List Nat):∀(ws:List Nat) (t:Nat),(eP ws t l).length=ws.length:=by
 induction l with
 | nil=>intro ws t;rfl
 | cons v l ih=>intro ws t;simp only[eP,ih,kq4]
theorem qY(l:List Nat):∀(ws:List Nat) (t i:Nat),t+l.length<=ws.length->wd (eP ws t l) i=if t<=i/\i<t+l.length then l[i-t]?.getD 0 else wd ws i:=by
 induction l with
 | nil=>intro ws t i _;simp only[eP,kxk];rw[if_neg (by omega)]
 | cons v l ih =>
  intro ws t i c;rw[kq1] at c;simp only[eP,kq1];rw[ih (ws.set t v) (t+1) i (by rw[kq4];omega),l6];by_cases b:t=i
  .subst b;rw[if_neg (by omega),if_pos ⟨rfl,by omega⟩,if_pos (by omega)];simp
  by_cases a:t+1<=i/\i<t+1+l.length
  .rw[if_pos a,if_pos (by omega)];obtain⟨m,rfl⟩:∃m,i=t+1+m:=⟨i-(t+1),by omega⟩;rw[show t+1+m-(t+1)=m by omega,show t+1+m-t=m+1 by omega];simp
  rw[if_neg a,if_neg (λh=>b h.1),if_neg (by omega)]
theorem dF{xs:List Nat}(hn:xs.length=ws.length):∀i,(∀j,i<=j->wd xs j=wd ws j)->blocks xs i=blocks ws i:=by
 have c:∀n i,ws.length-i<=n->(∀j,i<=j->wd xs j=wd ws j)->blocks xs i=blocks ws i:=by
  intro n
  induction n with
  | zero=>intro i h _;rw[aE (by omega),aE (by omega)]
  | succ n ih =>
   intro i h a;by_cases hi:ws.length<=i
   .rw[aE (by omega),aE (by omega)]
   have d:stands xs i=stands ws i:=by unfold stands;rw[a i (kqa _),hn]
   have e:szAt xs i=szAt ws i:=by unfold szAt;rw[a i (kqa _)]
   have f:bkAt xs i=bkAt ws i:=by unfold bkAt;rw[a i (kqa _),a (i+1) (by omega)]
   cases b:stands ws i with
   | false=>rw[dP (by omega) (by rw[d,b]),dP (by omega) b]
   | true =>have hsz:=aG b;rw[aP (by omega) (by rw[d,b]),aP (by omega) b,e,f,ih _ (by omega) (λj hj=>a j (by omega))]
 exact λi=>c _ i (kqa _)
theorem s7{xs:List Nat}(hw:∀j,j<128->wd xs j=wd ws j):∀ {l:List Bk},(∀b∈l,b.kind=1->tyA b+1<128)->∀s,bL xs l s=bL ws l s:=by
 intro l
 induction l with
 | nil=>intro _ s;rfl
 | cons b l ih =>
  intro h s;have e:du xs b=du ws b:=by
   unfold du;by_cases c:b.kind=1
   .have h2:=h b (by simp) c;unfold cK;rw[hw _ (by omega),hw _ (by omega)]
   have:(b.kind != 1)=true:=by rw[kqu];exact c
   rw[this,kkj,kkj]
  simp only[bL,e];rw[ih (λb a=>h b (by simp[a])),ih (λb a=>h b (by simp[a]))]
theorem jy(h:blocks ws i=some l)(h2:i%2=0):∀b∈l,b.kind=1->tyA b+1<128:=by intro b f c;obtain⟨m,d,rfl⟩:=kq2 f;obtain⟨a,e,-,-,-,g,-⟩:=b9 _ _ h h2 m d;rw[e] at c |-;exact Ew (fE g) rfl rfl c
def dA (ws:List Nat) (f t:Int):Int:=if aW ws f t=0 then (match blocks ws f.toNat with | some (b::_)=>if b.mark then 0 else 6 | _=>6) else aW ws f t
def dB (ws:List Nat) (f:Nat):List Nat:=(List.range (szAt ws f)).map λi=>if i=0 then da { ar (wd ws f) with mark:=false } else if i=1 then 0 else wd ws (f+i)
theorem vB{t:Int}(h:dA ws f t=0):aW ws f t=0/\∃a:Nat,f=(a:Int)/\a%2=0/\128<=a/\a<ws.length/\stands ws a=true/\aV (bkAt ws a)=true/\∃l,blocks ws a=some (bkAt ws a::l)/\blocks ws (a+szAt ws a)=some l:=by
 unfold dA at h;split at h
 .rename_i h0;refine⟨h0,?_⟩;obtain⟨h1,o,l,c,h4,h5⟩:=bQ h0;obtain⟨a1,a2,a3,a4,a5⟩:=gC o;rw[c] at h;cases l with
  | nil=>simp at h
  | cons b l =>
   dsimp only at h;split at h
   .rename_i hm;refine⟨f.toNat,by omega,by omega,by omega,?_,?_⟩
    .rcases kq6 f.toNat ws.length with d|d
     .exact d
     rw[aE d] at c;simp at c
    have g:f.toNat<ws.length:=by
     rcases kq6 f.toNat ws.length with d|d
     .exact d
     rw[aE d] at c;simp at c
    obtain⟨_,j,k,p⟩:=cj c g;have j:b=bkAt ws f.toNat:=j;subst j;refine⟨k,?_,l,c,by simpa using p⟩;have n:=(bt _).1 (fE k);have i:(ar (wd ws f.toNat)).mark=true:=hm;have m:(bkAt ws f.toNat).kind=1:=by
     rcases n.2 with e|e
     .exact e.1
     rw[i] at e;exact absurd e.2.2.1 (by simp)
    simp[aV,m];exact hm
   simp at h
 rename_i h0;exact absurd h h0
theorem gh(ws:List Nat)(f:Nat):(dB ws f).length=szAt ws f:=by simp[dB]
theorem jV(ws:List Nat)(f i:Nat)(h:i<szAt ws f):(dB ws f)[i]? = some (if i=0 then da { ar (wd ws f) with mark:=false } else if i=1 then 0 else wd ws (f+i)):=by simp[dB,h]
theorem zi{w:Nat}(h:jO (ar w)=true)(hk:(ar w).kind=1):jO { ar w with mark:=false }=true:=by
 have:=(bt _).1 h;rw[bt];show _/\((ar w).kind=1/\_\/_);rcases this.2 with a|a
 .exact ⟨this.1,.inl a⟩
 rw[hk] at a;exact absurd a.1 (by omega)
theorem gj{t:Int}(h:dA ws f t=0):∃a u n:Nat,f=(a:Int)/\t=(u:Int)/\n=szAt ws a/\2<=n/\n<=10/\128<=u/\u<=a/\a+n<=ws.length/\stands ws a=true/\aV (bkAt ws a)=true /\
 (∃l,blocks ws a=some (bkAt ws a::l)/\blocks ws (a+n)=some l/\blocks (eP ws u (dB ws a)) (a+n)=some l/\aW (eP ws u (dB ws a)) ((a+n:Nat):Int) ((u+n:Nat):Int)=0 /\
  ia ws f t=((a:Int),(u:Int))::ia (eP ws u (dB ws a)) ((a+n:Nat):Int) ((u+n:Nat):Int)) /\
 wd (eP ws u (dB ws a)) u=da { ar (wd ws a) with mark:=false }/\jO { ar (wd ws a) with mark:=false }=true:=by
 obtain⟨M,a,rfl,N,c2,c3,r,p,l,z,E⟩:=vB h;obtain⟨D,I,l',C,F,J⟩:=bQ M;obtain⟨a1,a2,a3,a4,a5⟩:=gC I;have B:=mr D;rw[kqi,z] at C;cases C;obtain⟨u,rfl⟩:=kqz (show 0<=t by omega);have m:=aG r;have A:(bkAt ws a).kind=1:=by simp[aV] at p;exact p.1
 have s:=(bt _).1 (fE r);have q:szAt ws a<=10:=by
  have e1:(ar (wd ws a)).size=((szAt ws a:Nat):Int):=rfl;have x:(ar (wd ws a)).kind=1:=A;rcases s.2 with v|v
  .omega
  rw[x] at v;exact absurd v.1 (by omega)
 have w:=zi (fE r) A;have d:=gh ws a;have g:∀i,wd (eP ws u (dB ws a)) i=if u<=i/\i<u+szAt ws a then (dB ws a)[i-u]?.getD 0 else wd ws i:=by intro i;rw[qY _ _ _ _ (by rw[d];omega),d]
 have c:∀j,a+szAt ws a<=j->wd (eP ws u (dB ws a)) j=wd ws j:=λj K=>by rw[g,if_neg (by omega)]
 have k:blocks (eP ws u (dB ws a)) (a+szAt ws a)=some l:=by rw[dF (lC _ _ _) _ c,E]
 have y:∀j,j<128->wd (eP ws u (dB ws a)) j=wd ws j:=λj K=>by rw[g,if_neg (by omega)]
 have L:bL ws l ((u:Int)+(szAt ws a:Nat))=true:=by simp only[bL,p,if_true,kqo] at F;exact F.2.2
 have H:bL (eP ws u (dB ws a)) l ((u+szAt ws a:Nat):Int)=true:=by
  rw[s7 y (λb B=>jy z N b (by simp[B]))]
  simpa using L
 have o:aW (eP ws u (dB ws a)) ((a+szAt ws a:Nat):Int) ((u+szAt ws a:Nat):Int)=0:=by
  rw[iy (by rw[lC];exact D) ?_ (by rw[kqi];exact k),if_pos H];rw[lC];cases G:fJ ws.length ((a+szAt ws a:Nat):Int) ((u+szAt ws a:Nat):Int) with
  | false=>rfl
  | true=>exact absurd (by omega) ((kO _ _ _).1 G)
 refine⟨a,u,szAt ws a,rfl,rfl,rfl,m.1,q,by omega,by omega,m.2.2,r,p,⟨l,z,E,k,o,?_⟩,?_,w⟩
 .rw[J];have e:ia (eP ws u (dB ws a)) ((a+szAt ws a:Nat):Int) ((u+szAt ws a:Nat):Int)=az l ((u+szAt ws a:Nat):Int):=by unfold ia;rw[if_pos o,kqi,k]
  rw[e];simp only[az,p,if_true,ab,bC];simp
 rw[g,if_pos (by omega),kvg,jV _ _ _ (by omega),kq8,if_pos rfl]
def bu (b:Bk) (s:Int):Nat:=if aV b then s.toNat else 0
def eU (b:Bk) (s:Int):Int:=if aV b then s+b.size else s
def aN:List Bk->Int->List En
 | [],_=>[]
 | b::l,s=>(if b.kind=1/\b.next≠bu b s then [⟨b.at_+1,bu b s⟩] else [])++aN l (eU b s)
def fwB:List Bk->Int->List Bk
 | [],_=>[]
 | b::l,s=>(if b.kind=1 then { b with next:=bu b s } else b)::fwB l (eU b s)
def aj:List Nat->List En->List Nat
 | ws,[]=>ws
 | ws,e::l=>aj (if 0<=e.a/\e.a<(ws.length:Int) then ws.set e.a.toNat e.v else ws) l
theorem av(l:List En):∀ws:List Nat,(aj ws l).length=ws.length:=by
 induction l with
 | nil=>intro ws;rfl
 | cons e l ih=>intro ws;simp only[aj,ih];split<;>simp
theorem eI(a b:List En):∀ws:List Nat,aj ws (a++b)=aj (aj ws a) b:=by
 induction a with
 | nil=>intro ws;rfl
 | cons e a ih=>intro ws;simp only[kzg,aj,ih]
theorem aQ(l:List En):∀(ws:List Nat) (i:Nat),(∀e∈l,e.a≠(i:Int))->wd (aj ws l) i=wd ws i:=by
 induction l with
 | nil=>intro ws i _;rfl
 | cons e l ih =>
  intro ws i h;simp only[aj];rw[ih _ i (λx b=>h x (by simp[b]))];split
  .rename_i hb;exact gU ws _ (by have:=h e (by simp);omega)
  rfl
theorem qs(a b:List Bk):∀s,aN (a++b) s=aN a s++aN b (aI a s):=by
 induction a with
 | nil=>intro s;rfl
 | cons x a ih =>intro s;simp only[kzg,aN,ih,aI,eU,kxs];cases aV x<;>simp
theorem pK :∀i l,blocks ws i=some l->∀s,∀e∈aN l s,(i:Int)+1<=e.a/\e.a<(ws.length:Int):=by
 refine dJ _ (λi _ s e h=>by simp[aN] at h) (λi l hi b hb c s e h=>?_);have hsz:=aG b;simp only[aN,kzu] at h;rcases h with h|h
 .split at h
  .simp only[kqt,kzb,or_false] at h;subst h;show (i:Int)+1<=(bkAt ws i).at_+1/\(bkAt ws i).at_+1<_;rw[ab];omega
  simp at h
 have:=c _ e h;omega
theorem pi{v:Nat}(h:i+1<ws.length):bkAt (ws.set (i+1) v) i={ bkAt ws i with next:=v }:=by rw[un (by omega) h];unfold mT;rw[if_pos (by rw[ab];omega)]
theorem rK{v:Nat}(h:b.next=v):{ b with next:=v }=b:=by subst h;rfl
theorem sR:∀n (ws:List Nat) (i:Nat) (l:List Bk),ws.length-i<=n->blocks ws i=some l->∀s,blocks (aj ws (aN l s)) i=some (fwB l s)/\∀j,j<=i->wd (aj ws (aN l s)) j=wd ws j:=by
 intro n
 induction n with
 | zero =>intro ws i l C h s;rw[aE (by omega)] at h;cases h;exact⟨by simp only[aN,aj,fwB];exact aE (by omega),λj _=>rfl⟩
 | succ n ih =>
  intro ws i l C h s;by_cases c:ws.length<=i
  .rw[aE c] at h;cases h;exact⟨by simp only[aN,aj,fwB];exact aE c,λj _=>rfl⟩
  have c:i<ws.length:=by omega
  cases k:stands ws i with
  | false=>rw[dP c k] at h;cases h
  | true =>
   have hsz:=aG k;rw[aP c k] at h;cases m:blocks ws (i+szAt ws i) with
   | none=>rw[m] at h;cases h
   | some l' =>
    rw[m] at h;simp only[kzt,Option.some.injEq] at h;subst h;obtain⟨a,o,b,u,t,d,e⟩:∃a,aj ws (aN (bkAt ws i::l') s)=aj a (aN l' (eU (bkAt ws i) s))/\a.length=ws.length/\bkAt a i=(if (bkAt ws i).kind=1 then { bkAt ws i with next:=bu (bkAt ws i) s } else bkAt ws i)/\stands a i=stands ws i/\szAt a i=szAt ws i/\∀j,j≠i+1->wd a j=wd ws j:=by
     by_cases g:(bkAt ws i).kind=1/\(bkAt ws i).next≠bu (bkAt ws i) s
     .refine ⟨ws.set (i+1) (bu (bkAt ws i) s),?_,by simp,?_,(lJ _ (by omega)).1,(lJ _ (by omega)).2,λj v=>gU ws _ (by omega)⟩
      .simp only[aN];rw[if_pos g,eI];simp only[aj];rw[if_pos (by rw[ab];omega),ab,show ((i:Int)+1).toNat=i+1 by omega]
      rw[pi (by omega),if_pos g.1]
     refine⟨ws,?_,rfl,?_,rfl,rfl,λj _=>rfl⟩
     .simp only[aN];rw[if_neg g,kzv]
     split
     .rename_i hk;have:(bkAt ws i).next=bu (bkAt ws i) s:=by
       rcases Nat.decEq (bkAt ws i).next (bu (bkAt ws i) s) with q|q
       .exact absurd ⟨hk,q⟩ g
       exact q
      exact (rK this).symm
     rfl
    have r:blocks a (i+szAt ws i)=some l':=by rw[dF b _ (λj v=>e j (by omega)),m]
    obtain⟨w,f⟩:=ih a (i+szAt ws i) l' (by omega) r (eU (bkAt ws i) s);rw[o];obtain⟨E,B⟩:=xq (aN l' (eU (bkAt ws i) s));rw[B] at w f |-;have p:wd (aj a E) i=wd a i:=f i (by omega);have y:wd (aj a E) (i+1)=wd a (i+1):=f (i+1) (by omega);have x:stands (aj a E) i=stands a i:=by unfold stands;rw[p,av]
    have A:szAt (aj a E) i=szAt a i:=by unfold szAt;rw[p]
    have z:bkAt (aj a E) i=bkAt a i:=by unfold bkAt;rw[p,y]
    refine⟨?_,λj v=>by rw[f j (by omega)];exact e j (by omega)⟩;rw[aP (by rw[av,b];exact c) (by rw[x,t,k]),A,z,d,w,u];rfl
theorem CW :∀ {s:Int},aI (fwB l s) s=aI l s/\az (fwB l s) s=az l s/\(fwB l s).map (λb=>(b.at_,b.size,b.kind,b.mark))=l.map (λb=>(b.at_,b.size,b.kind,b.mark)):=by
 induction l with
 | nil=>intro s;exact⟨rfl,rfl,rfl⟩
 | cons b l ih =>
  intro s;have f:aV (if b.kind=1 then { b with next:=bu b s } else b)=aV b:=by split<;>rfl
  have g:(if b.kind=1 then { b with next:=bu b s } else b).size=b.size:=by split<;>rfl
  have e:(if b.kind=1 then { b with next:=bu b s } else b).at_=b.at_:=by split<;>rfl
  have h:(if b.kind=1 then { b with next:=bu b s } else b).kind=b.kind:=by split<;>rfl
  have i:(if b.kind=1 then { b with next:=bu b s } else b).mark=b.mark:=by split<;>rfl
  simp only[fwB,aI,az,kx9,f,g,e,h,i];unfold eU;split
  .obtain ⟨a,d,c⟩:=ih (s:=s+b.size);rw[a,d,c];exact⟨rfl,rfl,rfl⟩
  obtain⟨a,d,c⟩:=ih (s:=s);rw[a,d,c];exact⟨rfl,rfl,rfl⟩
end Go.Proofs.YtpcajamacpbjcaaGreat
