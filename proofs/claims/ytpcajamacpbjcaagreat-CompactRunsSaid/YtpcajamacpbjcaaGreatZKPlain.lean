import Derived.WalkSpells
import Derived.WalkLawsBesides
import Derived.BigQuiet
import Derived.Lib.Hide
import Derived.Deep.AppendLies
import Derived.Deep.Cut
import Derived.Test.YtpcajamacpbjcaaGreatZA
set_option maxHeartbeats 16000000
set_option linter.all false
namespace Go.Proofs.YtpcajamacpbjcaaGreat
open Go.RowKit
variable {p:Addr}{xm:Bool}{f nx s xa xk xt:Int}{G:List Nat}{xs:List Value}{B H g i j k n sz xn:Nat}{o:Obj}{A:Option Addr}{α:Type}{e t:TypeId}{v x y:Value}{w w' w1 wr:World}
def Rd (w:World) (B:Nat) (A:Option Addr) (xs:List Value):Prop:=
 xs≠[]->∃b off,A=some ⟨b,off,none⟩/\b<B/\∀j (h:j<xs.length),w.cell? ⟨b,off+j,none⟩=some xs[j]
section
variable {w w':World} {B B':Nat} {A:Option Addr} {xs:List Value}
theorem Rd.nil_:Rd w B A []:=λh=>absurd rfl h
theorem Rd.keep(h:Rd w B A xs)(g:∀p:Addr,p.block<B->w'.cell? p=w.cell? p):Rd w' B A xs:=λf=>by obtain⟨b,a,e,c,d⟩:=h f;exact⟨b,a,e,c,λj f=>(g ⟨b,a+j,none⟩ c).trans (d j f)⟩
theorem Rd.more(h:Rd w B A xs)(hB:B<=B'):Rd w B' A xs:=λd=>by obtain⟨b,a,e,hb,c⟩:=h d;exact⟨b,a,e,by omega,c⟩
theorem Rd.below(h:Rd w B A xs)(a:Below B w w'):Rd w' B A xs:=h.keep λ_ b=>a.cell b
theorem Rd.up(h:Rd w B A xs)(b:Below B w w')(a:B<=B'):Rd w' B' A xs:=(h.below b).more a
theorem yq8{u:World}{A:Option Addr}{x:List Value}(h:Hid (Rd w w.heap.size A x))(g:Hid (Below w.heap.size w u)):Rd u u.heap.size A x:=Rd.up h g (Below.size g)
theorem yq9{u:World}{A:Option Addr}{x:List Value}(h:Hid (Rd w w.heap.size A x))(g:Below w.heap.size w u):Hid (Rd u u.heap.size A x):=Rd.up h g (Below.size g)
theorem Rd.alloc(h:Rd w B A xs)(hB:B<=w.heap.size)(o:Obj):Rd (w.alloc o) B A xs:=h.keep λp hp=>kzc w o p (by omega)
theorem Rd.set_(h:Rd w B A xs)(hB:B<=p.block)(u:Value):Rd (w.setCell p u) B A xs:=
 h.keep λq hq=>kka w p q u (λe=>by subst e;omega)
theorem Rd.drop_(h:Rd w B A xs)(k:Nat):Rd w B (A.map (·.add k)) (xs.drop k):=λb=>by
 have c:k<xs.length:=by
  rcases kq8 k xs.length with a|a
  .exact a
  exact absurd (kk7 a) b
 obtain⟨b,d,rfl,f,g⟩:=h (by intro e;subst e;simp at c);refine⟨b,d+k,?_,f,λj e=>?_⟩
 .simp only[kzs,Addr.add];split<;>simp_all
 have a:k+j<xs.length:=by simp at e;omega
 rw[kjw,kki];exact g _ a
theorem Rd.take_(h:Rd w B A xs)(k:Nat):Rd w B A (xs.take k):=λf=>by obtain⟨b,a,rfl,c,d⟩:=h (by intro e;subst e;simp at f);exact⟨b,a,rfl,c,λj e=>by rw[kjx];exact d j (by simp at e;omega)⟩
theorem Rd.of_own{base size:Nat}{c:Nat}(h:w.ownsRow base e size (.slice A n c) n xs):Rd w w.heap.size A xs:=λd=>by
 have b:0<n:=by
  rcases kjc n with a|a
  .have:=h.1;subst a;simp at this;exact absurd this d
  exact a
 obtain⟨g,cap,f,_,a⟩:=h.form b;have d:A=some ⟨g,0,none⟩:=by injection f
 subst d;refine⟨g,0,rfl,a,λj d=>?_⟩;have:=h.cells (g:=g) rfl j xs[j] (kqg d);have e:(⟨g,0,none⟩:Addr).add j=⟨g,0+j,none⟩:=by unfold Addr.add;split<;>simp_all
 rwa [e] at this
end
theorem bU(f:α->List Value)(sz:Nat)(a:∀x,(f x).length=sz)(l:List α):(l.flatMap f).length=l.length*sz:=by
 induction l with
 | nil=>simp
 | cons x l b=>rw[kzz,kqu,a,b,kq4,kjl];omega
theorem ja(f:α->List Value)(sz:Nat)(a:∀x,(f x).length=sz)(l:List α)(k j:Nat)(b:k<l.length)(hj:j<sz):
 (l.flatMap f)[k*sz+j]? = (f l[k])[j]?:=by
 induction l generalizing k with
 | nil=>simp at b
 | cons x l c =>
  rw[kzz];cases k with
  | zero=>rw[kks (by rw[a];omega)];simp
  | succ k =>
   rw[kxn (by rw[a,kjl];omega),a];have:(k+1)*sz+j-sz=k*sz+j:=(by rw[kjl];omega);rw[this,c k (by simpa using b)];simp
theorem Rd.at_flat{f:α->List Value}{l:List α}(i:∀x,(f x).length=sz)(h:Rd w B A (l.flatMap f))(g:0<sz)(m:k<l.length):
 ∃b a,A=some ⟨b,a,none⟩/\b<B/\∀j,j<sz->w.cell? ⟨b,a+k*sz+j,none⟩=(f l[k])[j]?:=by
 have n:=bU f sz i l;have c:0<(l.flatMap f).length:=by rw[n];exact Nat.mul_pos (by omega) g
 obtain⟨b,a,rfl,o,p⟩:=h (by intro e;rw[e] at c;simp at c);refine⟨b,a,rfl,o,λj q=>?_⟩;have d:k*sz+j<(l.flatMap f).length:=by rw[n];have:(k+1)*sz<=l.length*sz:=kx2 _ m;rw[kjl] at this;omega
 have a:=p _ d;rw[<-kki] at a;rw[a,<-ja f sz i l k j m q];exact (kqg d).symm
structure En where
 a:Int
 v:Nat
 deriving DecidableEq,Inhabited
def En.cells (e:En):List Value:=[.int .i64 e.a,.int .u64 (e.v:Int)]
structure Bk where
 at_:Int
 size:Int
 kind:Int
 typ:Int
 mark:Bool
 next:Nat
 deriving DecidableEq,Inhabited
variable {b:Bk}{l:List Bk}
def Bk.cells (b:Bk):List Value:=[.int .i64 b.at_,.int .i64 b.size,.int .i64 b.kind,.int .i64 b.typ,.bool b.mark,.int .u64 (b.next:Int)]
def Bk.val (b:Bk):Value:=.agg #[.int .i64 b.at_,.int .i64 b.size,.int .i64 b.kind,.int .i64 b.typ,.bool b.mark,.int .u64 (b.next:Int)]
def aV (x:Int):List Value:=[.int .i64 x]
def ap (x:Nat):List Value:=[.int .u64 (x:Int)]
def RdE (w:World) (B:Nat) (A:Option Addr) (l:List En):Prop:=Rd w B A (l.flatMap En.cells)
def RdB (w:World) (B:Nat) (A:Option Addr) (l:List Bk):Prop:=Rd w B A (l.flatMap Bk.cells)
def RdI (w:World) (B:Nat) (A:Option Addr) (l:List Int):Prop:=Rd w B A (l.flatMap aV)
def RdW (w:World) (B:Nat) (A:Option Addr) (l:List Nat):Prop:=Rd w B A (l.flatMap ap)
theorem En.len(x:En):x.cells.length=2:=rfl
theorem Bk.len(x:Bk):x.cells.length=6:=rfl
theorem jI(x:Int):(aV x).length=1:=rfl
theorem cA(x:Nat):(ap x).length=1:=rfl
theorem RdE.at_{l:List En}(h:RdE w B A l)(g:k<l.length):
 ∃b c,A=some ⟨b,c,none⟩/\b<B/\w.cell? ⟨b,c+k*2,none⟩=some (.int .i64 l[k].a)/\w.cell? ⟨b,c+k*2+1,none⟩=some (.int .u64 (l[k].v:Int)):=by obtain⟨b,c,e,f,d⟩:=Rd.at_flat En.len h (by omega) g;exact⟨b,c,e,f,d 0 (by omega),d 1 (by omega)⟩
theorem RdB.at_(h:RdB w B A l)(f:k<l.length):
 ∃b a,A=some ⟨b,a,none⟩/\b<B/\w.cell? ⟨b,a+k*6,none⟩=some (.int .i64 l[k].at_)/\w.cell? ⟨b,a+k*6+1,none⟩=some (.int .i64 l[k].size) /\
  w.cell? ⟨b,a+k*6+2,none⟩=some (.int .i64 l[k].kind)/\w.cell? ⟨b,a+k*6+3,none⟩=some (.int .i64 l[k].typ) /\
  w.cell? ⟨b,a+k*6+4,none⟩=some (.bool l[k].mark)/\w.cell? ⟨b,a+k*6+5,none⟩=some (.int .u64 (l[k].next:Int)):=by obtain⟨b,a,e,d,c⟩:=Rd.at_flat Bk.len h (by omega) f;exact⟨b,a,e,d,c 0 (by omega),c 1 (by omega),c 2 (by omega),c 3 (by omega),c 4 (by omega),c 5 (by omega)⟩
theorem RdI.at_{l:List Int}(h:RdI w B A l)(f:k<l.length):
 ∃b a,A=some ⟨b,a,none⟩/\b<B/\w.cell? ⟨b,a+k,none⟩=some (.int .i64 l[k]):=by obtain⟨b,a,e,c,d⟩:=Rd.at_flat jI h (by omega) f;have:=d 0 (by omega);simp only[kjd,kxb] at this;exact⟨b,a,e,c,this⟩
theorem RdW.at_{l:List Nat}(h:RdW w B A l)(f:k<l.length):
 ∃b a,A=some ⟨b,a,none⟩/\b<B/\w.cell? ⟨b,a+k,none⟩=some (.int .u64 (l[k]:Int)):=by obtain⟨b,a,e,c,d⟩:=Rd.at_flat cA h (by omega) f;have:=d 0 (by omega);simp only[kjd,kxb] at this;exact⟨b,a,e,c,this⟩
theorem cr(h:B<=w.heap.size):B<=(w.alloc o).heap.size:=by rw[kqm];omega
theorem cF{a:World}(h:Below B a w)(n:Nat):Below B a (w.drewN n):=⟨h.os,h.tape,h.output,h.size,h.block⟩
theorem nR{b:Nat}{f:Nat->Value}(h:w.rowIs b t n f)(c:Below B w w')(a:b<B):w'.rowIs b t n f:=h.of_block (c.block b a)
theorem Ix{k:IntKind}{a b:Int}(h:a=b):Ending.returned (.int k a)=.returned (.int k b):=by rw[h]
theorem box_of{cs:Array Value}(a:Below (w.heap.size+1) (w.alloc (.cells cs t)) w1):
 (∀i,w1.cell? ⟨w.heap.size,i,none⟩=cs[i]?)/\(∀i,w1.frozen? ⟨w.heap.size,i,none⟩=false)/\Below w.heap.size w w1/\w.heap.size<w1.heap.size:=by have b:w1.heap[w.heap.size]? = some (.cells cs t (0,0)):=(a.block w.heap.size (by omega)).trans (heap_alloc_new w _);refine⟨λi=>cell_of_row w1 _ i cs t (0,0) b,λi=>by simp[World.frozen?,b],((kqe _ _).alloc (kqa _) _).trans (a.mono (by omega)),?_⟩;have:=a.size;simp at this;omega
def Bx (w:World) (g:Nat) (t:TypeId) (cs:Array Value):Prop:=w.heap[g]? = some (.cells cs t (0,0))
section
variable {w w':World} {g B:Nat} {t:TypeId} {cs:Array Value}
theorem Bx.lt(h:Bx w g t cs):g<w.heap.size:=by
 rcases kq8 g w.heap.size with b|a
 .exact b
 unfold Bx at h;rw[kx5 a] at h;cases h
theorem Bx.cell(h:Bx w g t cs)(i:Nat):w.cell? ⟨g,i,none⟩=cs[i]?:=cell_of_row w g i cs t (0,0) h
theorem Bx.frozen(h:Bx w g t cs)(i:Nat):w.frozen? ⟨g,i,none⟩=false:=by unfold Bx at h;simp[World.frozen?,h]
theorem Bx.new(w:World)(t:TypeId)(cs:Array Value):Bx (w.alloc (.cells cs t)) w.heap.size t cs:=heap_alloc_new w _
theorem Bx.alloc(h:Bx w g t cs)(o:Obj):Bx (w.alloc o) g t cs:=(Below.heap_alloc w o g h.lt).trans h
theorem Bx.far(h:Bx w g t cs)(a:g≠p.block)(u:Value):Bx (w.setCell p u) g t cs:=(kk1 w p u g a).trans h
theorem Bx.up(h:Bx w g t cs)(a:Below B w w')(b:g<B):Bx w' g t cs:=(a.block g b).trans h
theorem Bx.set_(h:Bx w g t cs)(i:Nat)(u:Value):Bx (w.setCell ⟨g,i,none⟩ u) g t (cs.setIfInBounds i u):=by unfold Bx at h |-;simp[World.setCell,Array.getElem?_modify,h]
theorem Bx.of_new(a:Below (w.heap.size+1) (w.alloc (.cells cs t)) w'):Bx w' w.heap.size t cs:=(Bx.new w t cs).up a (by omega)
theorem Bx.c1(h:Bx w g t #[x]):w.cell? ⟨g,0,none⟩=some x/\w.frozen? ⟨g,0,none⟩=false/\g<w.heap.size:=⟨h.cell 0,h.frozen 0,h.lt⟩
theorem Bx.c2(h:Bx w g t #[x,y]):w.cell? ⟨g,0,none⟩=some x/\w.cell? ⟨g,1,none⟩=some y/\w.frozen? ⟨g,0,none⟩=false/\w.frozen? ⟨g,1,none⟩=false/\g<w.heap.size:=
 ⟨h.cell 0,h.cell 1,h.frozen 0,h.frozen 1,h.lt⟩
theorem Bx.c3{z:Value}(h:Bx w g t #[x,y,z]):w.cell? ⟨g,0,none⟩=some x/\w.cell? ⟨g,1,none⟩=some y/\w.cell? ⟨g,2,none⟩=some z /\
 w.frozen? ⟨g,0,none⟩=false/\w.frozen? ⟨g,1,none⟩=false/\w.frozen? ⟨g,2,none⟩=false/\g<w.heap.size:=
 ⟨h.cell 0,h.cell 1,h.cell 2,h.frozen 0,h.frozen 1,h.frozen 2,h.lt⟩
theorem Bx.c6{x0 x1 x2 x3 x4 x5:Value}(h:Bx w g t #[x0,x1,x2,x3,x4,x5]):w.cell? ⟨g,0,none⟩=some x0/\w.cell? ⟨g,1,none⟩=some x1/\w.cell? ⟨g,2,none⟩=some x2 /\
 w.cell? ⟨g,3,none⟩=some x3/\w.cell? ⟨g,4,none⟩=some x4/\w.cell? ⟨g,5,none⟩=some x5/\(∀i,w.frozen? ⟨g,i,none⟩=false)/\g<w.heap.size:=
 ⟨h.cell 0,h.cell 1,h.cell 2,h.cell 3,h.cell 4,h.cell 5,h.frozen,h.lt⟩
end
theorem az(a:Below (w.heap.size+1) (w.alloc o) w1):Below w.heap.size w w1:=((kqe _ _).alloc (kqa _) _).trans (a.mono (by omega))
theorem bc(w:World)(cs:List Value)(t:TypeId):∀j u,cs[j]? = some u->(w.alloc (.cells cs.toArray t)).cell? ((⟨w.heap.size,0,none⟩:Addr).add j)=some u:=by
 intro j u a;have e:(⟨w.heap.size,0,none⟩:Addr).add j=⟨w.heap.size,j,none⟩:=by unfold Addr.add;split<;>simp_all
 rw[e,(Bx.new w t cs.toArray).cell j]
 simpa using a
theorem ay(c:Below H w wr)(b:H<=wr.heap.size)(a:wr.ownsRow H e sz v n xs)(d:(wr.alloc o).grownBy w1 v.ownBlock):Below H w w1:=
 (c.alloc b _).grown d (cr b) (λk f=>(a.lt k f).1)
theorem bi(b:Below H w wr)(c:H<=wr.heap.size)(a:wr.ownsRow H e sz v n xs)(d:wr.grownBy w1 v.ownBlock):Below H w w1:=
 b.grown d c (λk f=>(a.lt k f).1)
theorem Bx.grown{cs:Array Value}{row:Option Nat}(h:Bx w g t cs)(a:w.grownBy w' row)(b:some g≠row):Bx w' g t cs:=(a.block g h.lt b).trans h
theorem bI(a:w.ownsRow H e sz v n xs)(hg:g<H):some g≠v.ownBlock:=λh=>by have:=(a.lt g h.symm).1;omega
theorem aw(a:w.ownsRow H e sz v n xs):∃A c,v=.slice A n c:=by
 rcases a.2 with⟨rfl,rfl⟩|⟨g,cap,cur,rfl,_⟩
 .exact ⟨none,0,rfl⟩
 exact⟨_,_,rfl⟩
theorem ag(h:w.ownsRow H e sz v n xs)(i:Below B w w')(hB:w.heap.size<=B):w'.ownsRow H e sz v n xs:=by
 refine⟨h.1,?_⟩;rcases h.2 with j|⟨g,c,d,k,f,a,b⟩
 .exact .inl j
 exact .inr ⟨g,c,d,k,f,(i.block g (by have:=(kjk.1 a).1;omega)).trans a,b⟩
theorem ce(f:α->List Value)(l:List α)(x:α):(l++[x]).flatMap f=l.flatMap f++f x:=by simp
def En.ok (e:En):Prop:=-9223372036854775808<=e.a/\e.a<=9223372036854775807/\e.v<18446744073709551616
structure Ch where
 A:Option Addr
 c:Nat
 l:List En
 deriving Inhabited
def Ch.cells (x:Ch):List Value:=[.slice x.A x.l.length x.c]
def RdC (w:World) (B:Nat) (A:Option Addr) (l:List Ch):Prop:=Rd w B A (l.flatMap Ch.cells)
theorem Ch.len(x:Ch):x.cells.length=1:=rfl
theorem RdC.at_{l:List Ch}(h:RdC w B A l)(g:k<l.length):
 ∃b a,A=some ⟨b,a,none⟩/\b<B/\w.cell? ⟨b,a+k,none⟩=some (.slice l[k].A l[k].l.length l[k].c):=by obtain⟨b,a,e,d,f⟩:=Rd.at_flat Ch.len h (by omega) g;have:=f 0 (by omega);simp only[kjd,kxb] at this;exact⟨b,a,e,d,this⟩
def b9 (l:List En):List Int:=l.map En.a
theorem bD(l:List En):(b9 l).length=l.length:=by simp[b9]
theorem cZ(l:List En)(k:Nat)(h:k<l.length):(b9 l)[k]?.getD 0=l[k].a:=by simp[b9,h]
theorem ab{M:Nat}(h:w.ownsRow M e sz v n xs)(hH:H<=M):w.ownsRow H e sz v n xs:=by
 refine⟨h.1,?_⟩;rcases h.2 with d|⟨g,b,c,f,hb1,a⟩
 .exact .inl d
 exact .inr ⟨g,b,c,f,by omega,a⟩
theorem gR{H':Nat}{e':TypeId}{sz' n':Nat}{v':Value}{xs':List Value}(h:w.ownsRow H e sz v n xs)(c:w.ownsRow H' e' sz' v' n' xs')(b:e≠e'):v.ownBlock=none\/v.ownBlock≠v'.ownBlock:=by
 rcases h.2 with⟨rfl,_⟩|⟨g,cap,cur,rfl,_,d,_⟩
 .exact .inl rfl
 right;rcases c.2 with⟨rfl,_⟩|⟨g',cap',cur',rfl,_,a,_⟩
 .simp[Value.ownBlock]
 simp only[Value.ownBlock,ne_eq,Option.some.injEq];rintro rfl;rw[d] at a;simp only[Option.some.injEq,Obj.cells.injEq] at a;exact b a.2.1
theorem wM(f:α->List Value)(a:∀x,(f x).length=1)(l:List α)(n:Nat):(l.take n).flatMap f=(l.flatMap f).take n:=by
 induction l generalizing n with
 | nil=>simp
 | cons x l c =>
  have b:=a x
  match hfx:f x,b with
  | [u],_ =>
   cases n with
   | zero=>simp
   | succ n=>simp[List.flatMap_cons,hfx,c]
theorem yH(f:α->List Value)(a:∀x,(f x).length=1)(l:List α)(n:Nat):(l.drop n).flatMap f=(l.flatMap f).drop n:=by
 induction l generalizing n with
 | nil=>simp
 | cons x l c =>
  have b:=a x
  match hfx:f x,b with
  | [u],_ =>
   cases n with
   | zero=>simp
   | succ n=>simp[List.flatMap_cons,hfx,c]
def ey (H:Nat) (err:Int) (out:List En) (e:Ending) (w':World):Prop:=∃A c,e=.returned (.tuple #[.slice A out.length c,.int .i64 err])/\w'.ownsRow H 89 2 (.slice A out.length c) out.length (out.flatMap En.cells)
theorem bZ{err r:Int}{out:List En}(a:err=r)(b:out=[]):ey H err out (.returned (.tuple #[.slice none 0 0,.int .i64 r])) w':=by subst a b;exact⟨none,0,rfl,kq3 _ _ _ _⟩
def gk (l:List Bk) (k:Nat):Bk:=l[k]?.getD default
theorem bG(l:List Bk)(k:Nat)(h:k<l.length):gk l k=l[k]:=by simp[gk,h]
def Ds (b:Bk):Bool:=(b.kind==1||b.kind==2)&&((decide (2<=b.size)&&(decide (b.size<=2048)&&b.size%2==0))&&(decide (128<=b.at_)&&(b.at_%2==0&&decide (b.at_<=2048-b.size))))
def eD (l:List Bk):Nat->Int
 | 0=>128
 | k+1=>(gk l k).at_+(gk l k).size
def dl (l:List Bk):Nat->Bool
 | 0=>true
 | k+1=>dl l k&&(Ds (gk l k)&&(decide (k=0)||(gk l k).at_==eD l k))
def z8 (l:List Bk):Bool:=decide (l.length<=1024)&&dl l l.length
def cx (l:List Bk):Int:=if z8 l then 0 else 8
theorem fJ(h:dl l n=true)(hk:k<=n):dl l k=true:=by
 induction n with
 | zero =>
  have:k=0:=(by omega);subst this;exact h
 | succ n b =>
  rcases kq8 k (n+1) with a|a
  .simp only[dl,kqs] at h;exact b h.1 (by omega)
  have:k=n+1:=(by omega);subst this;exact h
theorem eF(h:dl l n=true)(a:k<n):Ds (gk l k)=true/\(k=0\/(gk l k).at_=eD l k):=by have:=fJ h (show k+1<=n from a);simp only[dl,kqs,kxw,kze,kqw] at this;exact this.2
theorem tL(h:1024<l.length):cx l=8:=by
 have:¬ l.length<=1024:=(by omega);simp[cx,z8,this]
theorem wT(h:dl l k=false)(a:k<=l.length):cx l=8:=by
 have:dl l l.length=false:=by
  cases b:dl l l.length with
  | false=>rfl
  | true=>rw[fJ b a] at h;cases h
 simp[cx,z8,this]
theorem rQ(h:l.length<=1024)(a:dl l l.length=true):cx l=0:=by simp[cx,z8,h,a]
theorem dE(h:cx l=0):l.length<=1024/\dl l l.length=true:=by
 unfold cx z8 at h;split at h
 .rename_i h1
  simpa using h1
 simp at h
theorem yY(l:List Bk):cx l=0\/cx l=8:=by unfold cx;split<;>simp
theorem fd(b:Bk):Ds b=true↔(b.kind=1\/b.kind=2)/\2<=b.size/\b.size<=2048/\b.size%2=0/\128<=b.at_/\b.at_%2=0/\b.at_<=2048-b.size:=by
 simp only[Ds,kqs,kxw,kqw,kze];constructor
 .rintro ⟨a,⟨c,d,e⟩,f,g,h⟩;exact⟨a,c,d,e,f,g,h⟩
 rintro ⟨a,c,d,e,f,g,h⟩;exact⟨a,⟨c,d,e⟩,f,g,h⟩
theorem Cv(h:Ds (gk l k)=false):dl l (k+1)=false:=by simp[dl,h]
theorem yM(a:k≠0)(h:(gk l k).at_≠eD l k):dl l (k+1)=false:=by
 have:((gk l k).at_==eD l k)=false:=by rw[kqc];exact h
 simp[dl,this,a]
theorem pM(c:dl l k=true)(h:Ds (gk l k)=true)(b:k=0\/(gk l k).at_=eD l k):dl l (k+1)=true:=by
 rcases b with a|a
 .subst a;simp[dl,h]
 simp[dl,c,h,a]
theorem pq(h:dl l k=true):128<=eD l k/\eD l k<=2048:=by
 cases k with
 | zero=>simp[eD]
 | succ k =>obtain⟨a,_⟩:=eF h (kjq k);have:=(fd _).1 a;simp only[eD];omega
def aE (b:Bk):Bool:=b.kind==1&&b.mark
def aQ:List Bk->Int->List Int
 | [],_=>[]
 | b::l,s=>if aE b then s::aQ l (s+b.size) else 0::aQ l s
def aN:List Bk->Int->Int
 | [],s=>s
 | b::l,s=>if aE b then aN l (s+b.size) else aN l s
def iz:List Bk->Int
 | []=>0
 | b::l=>if aE b then iz l else b.size+iz l
def oG (l:List Bk):Int:=if l.length=0 then 2048 else (gk l 0).at_
def eX (l:List Bk) (s:Int):Int:=if cx l=0 then (if s<128 then 2 else if oG l<s then 2 else if s%2=0 then 0 else 2) else 8
theorem de(l:List Bk)(s:Int):(aQ l s).length=l.length:=by
 induction l generalizing s with
 | nil=>rfl
 | cons b l a=>simp only[aQ];split<;>simp[a]
theorem iq(a b:List Bk)(s:Int):aN (a++b) s=aN b (aN a s):=by
 induction a generalizing s with
 | nil=>rfl
 | cons x a c=>simp only[kzq,aN];split<;>exact c _
theorem jW(a b:List Bk)(s:Int):aQ (a++b) s=aQ a s++aQ b (aN a s):=by
 induction a generalizing s with
 | nil=>rfl
 | cons x a c=>simp only[kzq,aQ,aN];split<;>simp[c]
theorem qU(a b:List Bk):iz (a++b)=iz a+iz b:=by
 induction a with
 | nil=>simp[iz]
 | cons x a ih=>simp only[kzq,iz];split<;>omega
theorem gN(h:k<l.length)(s:Int):aN (l.take (k+1)) s=if aE l[k] then aN (l.take k) s+l[k].size else aN (l.take k) s:=by rw[kqi h,iq];rfl
theorem iV(h:k<l.length)(s:Int):aQ (l.take (k+1)) s=aQ (l.take k) s++[if aE l[k] then aN (l.take k) s else 0]:=by rw[kqi h,jW];simp only[aQ];split<;>rfl
theorem tf(h:k<l.length):iz (l.take (k+1))=if aE l[k] then iz (l.take k) else iz (l.take k)+l[k].size:=by rw[kqi h,qU];simp only[iz];split<;>omega
def oK (l:List Bk) (k:Nat):Int:=if k=0 then 0 else eD l k-(gk l 0).at_
theorem pI(h:dl l k=true)(hk:k<=l.length)(s:Int):0<=aN (l.take k) s-s/\0<=iz (l.take k)/\(aN (l.take k) s-s)+iz (l.take k)=oK l k/\oK l k<=1920:=by
 induction k with
 | zero=>simp[aN,iz,oK]
 | succ k f =>
  have a:k<l.length:=(by omega);obtain⟨i1,i2,i3,i4⟩:=f (fJ h (kje k)) (by omega);obtain⟨d,b⟩:=eF h (kjq k);have d:=(fd _).1 d;have hb0:=(fd _).1 (eF h (Nat.succ_pos k)).1;rw[gN a,tf a];have e:oK l (k+1)=oK l k+(gk l k).size:=by
   unfold oK;rw[if_neg (Nat.succ_ne_zero k),show eD l (k+1)=(gk l k).at_+(gk l k).size from rfl];by_cases c:k=0
   .subst c;rw[if_pos rfl];omega
   rw[if_neg c];rcases b with b|b
   .exact absurd b c
   omega
  have c:oK l (k+1)<=1920:=by unfold oK;rw[if_neg (Nat.succ_ne_zero k),show eD l (k+1)=(gk l k).at_+(gk l k).size from rfl];omega
  rw[e] at c |-;rw[<-bG l k a];split<;>omega
theorem zG(h:cx l=0):oG l<=2048:=by
 unfold oG;split
 .omega
 have:=(fd _).1 (eF (dE h).2 (show 0<l.length by omega)).1;omega
theorem iw(h:cx l=0)(a:k<=l.length)(hs:128<=s)(e:s<=oG l):128<=aN (l.take k) s/\aN (l.take k) s<=2048:=by
 obtain⟨h1,c⟩:=dE h;have hmb:=zG h;obtain⟨i1,i2,f,i4⟩:=pI (fJ c a) a s;refine⟨by omega,?_⟩;by_cases b:k=0
 .subst b;simp[aN];omega
 have hn:=(pq (fJ c a)).2;have d:l.length≠0:=(by omega);simp only[oK,b,if_false] at f;simp only[oG,d,if_false] at e;omega
theorem AA{xs:Int}(b:gk l k=⟨xa,xs,xk,xt,xm,xn⟩)(d:eD l k=nx)(h:¬ ((xk=1\/xk=2)/\2<=xs/\xs<=2048/\xs%2=0/\128<=xa/\xa%2=0/\xa<=2048-xs/\(k=0\/xa=nx))):dl l (k+1)=false:=by
 by_cases c:Ds (gk l k)=true
 .have a:=(fd _).1 c;rw[b] at a;dsimp only at a;refine yM (by omega) ?_;rw[b,d];dsimp only;omega
 exact Cv (by cases hq:Ds (gk l k)<;>simp_all)
theorem tH{xs:Int}(a:gk l k=⟨xa,xs,xk,xt,xm,xn⟩)(b:eD l k=nx)(c:dl l k=true)(h:(xk=1\/xk=2)/\2<=xs/\xs<=2048/\xs%2=0/\128<=xa/\xa%2=0/\xa<=2048-xs/\(k=0\/xa=nx)):dl l (k+1)=true:=by
 refine pM c ((fd _).2 ?_) ?_
 .rw[a];dsimp only;omega
 rw[a,b];dsimp only;omega
theorem GD(h:cx l≠0):eX l s=cx l:=by
 rcases yY l with a|a
 .exact absurd a h
 simp[eX,a]
theorem Jh(h:cx l=0)(h2:s<128\/oG l<s\/s%2≠0):eX l s=2:=by
 unfold eX;rw[if_pos h];by_cases a:s<128
 .rw[if_pos a]
 rw[if_neg a];by_cases b:oG l<s
 .rw[if_pos b]
 rw[if_neg b,if_neg (by omega)]
theorem Ai(h:cx l=0)(a:128<=s/\s<=oG l/\s%2=0):eX l s=0:=by unfold eX;rw[if_pos h,if_neg (by omega),if_neg (by omega),if_pos a.2.2]
theorem dx(h:eX l s=0):cx l=0/\128<=s/\s<=oG l/\s%2=0:=by
 unfold eX at h;split at h
 .split at h
  .simp at h
  split at h
  .simp at h
  split at h
  .exact ⟨by assumption,by omega,by omega,by assumption⟩
  simp at h
 simp at h
theorem ur(h:cx l=0)(e:s<=oG l)(b:k<l.length):aN (l.take k) s<=(gk l k).at_:=by
 obtain⟨h1,c⟩:=dE h;obtain⟨i1,i2,g,i4⟩:=pI (fJ c (kjn b)) (kjn b) s;have f:l.length≠0:=(by omega);simp only[oG,f,if_false] at e;by_cases a:k=0
 .subst a;simp[aN];exact e
 simp only[oK,a,if_false] at g;rcases (eF c b).2 with d|d
 .exact absurd d a
 omega
theorem kz(a:k<l.length):(aQ l s)[k]? = some (if aE (gk l k) then aN (l.take k) s else 0):=by
 have b:=iV a s;have c:aQ l s=aQ (l.take (k+1)) s++aQ (l.drop (k+1)) (aN (l.take (k+1)) s):=by rw[<-jW,kz6]
 have d:(aQ (l.take k) s).length=k:=by rw[de,kq6];omega
 rw[c,b,kx9,kxn (by omega),d,bG l k a];simp
def Gv (s b:Nat):Nat:=((s ^^^ b)*1099511628211)%18446744073709551616
def jl (w i:Nat):Nat:=w/256 ^ i%256
def Cz (s w:Nat):Nat->Nat
 | 0=>s
 | k+1=>Gv (Cz s w k) (jl w k)
def fnvW (s w:Nat):Nat:=Cz s w 8
def aR (s:Nat):List Nat->Nat
 | []=>s
 | w::l=>aR (fnvW s w) l
def jt (w:Nat):Nat:=fnvW 14695981039346656037 w
theorem so(w i:Nat):jl w i<256:=kz3 _ (by omega)
theorem GZ(s b:Nat):Gv s b<18446744073709551616:=kz3 _ (by omega)
theorem tM{s:Nat}(a:s<18446744073709551616)(w k:Nat):Cz s w k<18446744073709551616:=by
 cases k with
 | zero=>exact a
 | succ k=>exact GZ _ _
theorem Hb{s:Nat}(a:s<18446744073709551616)(w:Nat):fnvW s w<18446744073709551616:=tM a w 8
theorem gM{s:Nat}(a:s<18446744073709551616)(l:List Nat):aR s l<18446744073709551616:=by
 induction l generalizing s with
 | nil=>exact a
 | cons w l b=>exact b (Hb a w)
theorem oM(s:Nat)(a b:List Nat):aR s (a++b)=aR (aR s a) b:=by
 induction a generalizing s with
 | nil=>rfl
 | cons w a c=>exact c _
theorem mg{l:List Nat}(h:k<l.length)(s:Nat):aR s (l.take (k+1))=fnvW (aR s (l.take k)) l[k]:=by rw[kqi h,oM];rfl
theorem Jr(s b:Nat)(c:b<256):s-s%256+((s%256) ^^^ b)=s ^^^ b:=by
 have d:(s%256) ^^^ b<2 ^ 8:=Nat.xor_lt_two_pow (kz3 _ (by omega)) c;have e:s-s%256=2 ^ 8*(s/256):=by have:=kvn s 256;omega
 apply Nat.eq_of_testBit_eq;intro j;rw[e,Nat.testBit_two_pow_mul_add _ d,Nat.testBit_xor];split
 .rename_i hj;rw[Nat.testBit_xor,show (256:Nat)=2 ^ 8 from rfl,Nat.testBit_mod_two_pow];simp[hj]
 rename_i hj;have a:b.testBit j=false:=Nat.testBit_lt_two_pow (kxm c (by
  have:2 ^ 8<=2 ^ j:=kjs (by omega) (by omega)
  simpa using this))
 rw[Nat.testBit_xor,a,Bool.xor_false,show (256:Nat)=2 ^ 8 from rfl,<-Nat.shiftRight_eq_div_pow,Nat.testBit_shiftRight];congr 1;omega
def jk (b:Bk):Bool:=(decide (2<=b.size)&&b.size%2==0)&&((b.kind==1&&(decide (0<=b.typ)&&(decide (b.typ<8)&&decide (b.size<=10))))||(b.kind==2&&(b.typ==0&&(!b.mark&&decide (b.size<=1920)))))
theorem bC(b:Bk):jk b=true↔(2<=b.size/\b.size%2=0)/\(b.kind=1/\0<=b.typ/\b.typ<8/\b.size<=10\/b.kind=2/\b.typ=0/\b.mark=false/\b.size<=1920):=by simp only[jk,kqs,kxw,kqw,kze,kxq]
def mE (m:Bool):Nat:=if m then 1 else 0
def kr (b:Bk):Nat:=b.kind.toNat+mE b.mark*256+b.typ.toNat*512+b.size.toNat*65536
def cQ (b:Bk):Nat:=kr b+jt (kr b)%4294967296*4294967296
def aq (w:Nat):Bk:=⟨0,(w/65536%65536:Nat),(w%256:Nat),(w/512%128:Nat),w/256%2==1,0⟩
def aD (w:Nat):Bool:=jk (aq w)&&cQ (aq w)==w
theorem Ax(m:Bool):mE m<=1:=by cases m<;>simp[mE]
theorem qS(h:jk b=true):b.kind.toNat<256/\b.typ.toNat<128/\b.size.toNat<65536/\0<=b.kind/\0<=b.typ/\0<=b.size/\b.size<=1920:=by have:=(bC b).1 h;omega
theorem vu(h:jk b=true):kr b<4294967296:=by obtain⟨h1,h2,h3,-⟩:=qS h;have:=Ax b.mark;unfold kr;omega
theorem qM(h:jk b=true):cQ b<18446744073709551616:=by have h1:=vu h;have h2:jt (kr b)%4294967296<4294967296:=kz3 _ (by omega);unfold cQ;omega
theorem kK(h:jk b=true):aq (cQ b)=⟨0,b.size,b.kind,b.typ,b.mark,0⟩:=by
 obtain⟨h1,h2,h3,h4,h5,h6,h7⟩:=qS h;have hm:=Ax b.mark;unfold aq cQ;generalize jt (kr b)%4294967296=t;have hl:kr b=b.kind.toNat+mE b.mark*256+b.typ.toNat*512+b.size.toNat*65536:=rfl;generalize kr b=q at *;generalize a:mE b.mark=m at *;have c:(q+t*4294967296)/65536%65536=b.size.toNat:=(by omega);have d:(q+t*4294967296)%256=b.kind.toNat:=(by omega);have e:(q+t*4294967296)/512%128=b.typ.toNat:=(by omega);have f:(q+t*4294967296)/256%2=m:=(by omega);rw[c,d,e,f];congr 1
 .omega
 .omega
 .omega
 rw[<-a];cases b.mark<;>simp[mE]
theorem yL{a:Bk}(c:a.size=b.size)(d:a.kind=b.kind)(e:a.typ=b.typ)(f:a.mark=b.mark):cQ a=cQ b/\jk a=jk b:=by unfold cQ kr jk;rw[c,d,e,f];exact⟨rfl,rfl⟩
theorem pP(h:jk b=true):aD (cQ b)=true:=by unfold aD;rw[kK h];have:=yL (a:=⟨0,b.size,b.kind,b.typ,b.mark,0⟩) (b:=b) rfl rfl rfl rfl;rw[this.1,this.2,h];simp
def wd (G:List Nat) (i:Nat):Nat:=G[i]?.getD 0
def bkAt (G:List Nat) (i:Nat):Bk:={ aq (wd G i) with at_:=(i:Nat),next:=wd G (i+1) }
def stands (G:List Nat) (i:Nat):Bool:=aD (wd G i)&&decide ((aq (wd G i)).size<=(G.length:Int)-i)
def szAt (G:List Nat) (i:Nat):Nat:=wd G i/65536%65536
def nI (G:List Nat):Nat->Nat->Option (List Bk)
 | 0,i=>if G.length<=i then some [] else none
 | f+1,i=>if G.length<=i then some [] else if stands G i then (nI G f (i+szAt G i)).map (bkAt G i :: ·) else none
def blocks (G:List Nat) (i:Nat):Option (List Bk):=nI G G.length i
theorem aC(h:stands G i=true):2<=szAt G i/\szAt G i%2=0/\i+szAt G i<=G.length:=by unfold stands aD at h;simp only[kqs,kze] at h;obtain⟨⟨a,_⟩,b⟩:=h;have c:=(bC _).1 a;simp only[aq] at b c;unfold szAt;omega
theorem oY{f:Nat}(h:G.length-i<=f):∀ {g:Nat},G.length-i<=g->nI G f i=nI G g i:=by
 induction f generalizing i with
 | zero =>
  intro g _;cases g with
  | zero=>rfl
  | succ g=>simp only[nI];rw[if_pos (by omega),if_pos (by omega)]
 | succ f a =>
  intro g hg;cases g with
  | zero=>simp only[nI];rw[if_pos (by omega),if_pos (by omega)]
  | succ g =>
   simp only[nI];split
   .rfl
   split
   .rename_i hs;have:=aC hs;rw[a (i:=i+szAt G i) (by omega) (g:=g) (by omega)]
   rfl
theorem aH(h:G.length<=i):blocks G i=some []:=by
 unfold blocks;cases a:G.length with
 | zero=>simp[nI,a]
 | succ n=>rw[nI,if_pos (by omega)]
theorem aT(h:i<G.length)(a:stands G i=true):blocks G i=(blocks G (i+szAt G i)).map (bkAt G i :: ·):=by have hsz:=aC a;unfold blocks;rw[oY (f:=G.length) (i:=i) (by omega) (g:=G.length+1) (by omega),nI,if_neg (by omega),if_pos a]
theorem dt(h:i<G.length)(a:stands G i=false):blocks G i=none:=by unfold blocks;rw[oY (f:=G.length) (i:=i) (by omega) (g:=G.length+1) (by omega),nI,if_neg (by omega),if_neg (by rw[a];exact Bool.false_ne_true)]
def cG (a:Nat):List Nat:=(List.range (a%256)).map λi=>a/4 ^ (i+4)%4
def oE:List Nat->Nat->Nat
 | [],_=>0
 | k::l,j=>k*4 ^ j+oE l (j+1)
def ko (l:List Nat):Nat:=l.length+oE l 4
def fM (l:List Nat):Bool:=l.all λk=>decide (1<=k)&&decide (k<=3)
def dj (l:List Nat):Int:=if 8<l.length then 4 else if fM l=true then 0 else 8
def bp (n:Nat):Nat:=2+(n+1)/2*2
def b8 (a b:Nat):Bool:=(decide (a%256<=8)&&fM (cG a))&&(ko (cG a)==a&&jt a==b)
theorem dp(a:Nat):(cG a).length=a%256:=by simp[cG]
theorem mI(a i:Nat)(h:i<a%256):(cG a)[i]? = some (a/4 ^ (i+4)%4):=by simp[cG,h]
theorem nZ(a b:List Nat)(j:Nat):oE (a++b) j=oE a j+oE b (j+a.length):=by
 induction a generalizing j with
 | nil=>simp[oE]
 | cons k a c=>simp only[kzq,oE,c,kq4];rw[show j+1+a.length=j+(a.length+1) by omega];omega
theorem ta(l:List Nat)(j:Nat)(h:∀k∈l,k<=3):oE l j+4 ^ j<=4 ^ (j+l.length):=by
 induction l generalizing j with
 | nil=>simp[oE]
 | cons k l c =>have a:=c (j+1) (λk b=>h k (by simp[b]));have b:=h k (by simp);simp only[oE,kq4];rw[show j+(l.length+1)=j+1+l.length by omega];have h3:k*4 ^ j<=3*4 ^ j:=kx2 _ b;rw[kj3] at a;omega
theorem eW(l:List Nat):fM l=true↔∀k∈l,1<=k/\k<=3:=by simp[fM]
theorem By{l:List Nat}(a:k<l.length)(h:l[k]<1\/3<l[k]):fM l=false:=by
 cases b:fM l with
 | false=>rfl
 | true=>have:=(eW l).1 b l[k] (kqp a);omega
theorem tF{l:List Nat}(h:8<l.length):dj l=4:=by simp[dj,h]
theorem lI{l:List Nat}(h:l.length<=8)(a:fM l=false):dj l=8:=by
 have:¬ 8<l.length:=(by omega);simp[dj,this,a]
theorem jT{l:List Nat}(h:l.length<=8)(a:fM l=true):dj l=0:=by
 have:¬ 8<l.length:=(by omega);simp[dj,this,a]
theorem kq{l:List Nat}(h:dj l=0):l.length<=8/\fM l=true:=by
 unfold dj at h;split at h
 .simp at h
 split at h
 .exact ⟨by omega,by assumption⟩
 simp at h
theorem He{l:List Nat}(h:l.length<=8)(b:fM l=true):ko l<16777216:=by
 have h1:=ta l 4 (λk a=>((eW l).1 b k a).2);have h2:4 ^ (4+l.length)<=4 ^ 12:=kjs (by omega) (by omega);have h3:(4:Nat) ^ 12=16777216:=(by decide);have h4:(4:Nat) ^ 4=256:=(by decide);unfold ko;omega
def tyA (b:Bk):Nat:=96+2*b.typ.toNat
def dm (G:List Nat) (b:Bk):Bool:=b8 (wd G (tyA b)) (wd G (tyA b+1))&&b.size==((bp (wd G (tyA b)%256):Nat):Int)
def dQ (G:List Nat) (b:Bk):Bool:=b.kind != 1||dm G b
def ch (G:List Nat):List Bk->Int->Bool
 | [],_=>true
 | b::l,s=>dQ G b&&(if aE b then ((b.next:Int)==s)&&ch G l (s+b.size) else ch G l s)
def aA:List Bk->Int->List (Int × Int)
 | [],_=>[]
 | b::l,s=>if aE b then (b.at_,s)::aA l (s+b.size) else aA l s
theorem jK(G:List Nat)(a b:List Bk)(s:Int):ch G (a++b) s=(ch G a s&&ch G b (aN a s)):=by
 induction a generalizing s with
 | nil=>simp[ch,aN]
 | cons x a c =>
  simp only[kzq,ch,aN];split
  .rw[c];simp only[Bool.and_assoc]
  rw[c];simp only[Bool.and_assoc]
theorem gb(a b:List Bk)(s:Int):aA (a++b) s=aA a s++aA b (aN a s):=by
 induction a generalizing s with
 | nil=>rfl
 | cons x a c=>simp only[kzq,aA,aN];split<;>simp[c]
theorem oX(h:k<l.length)(s:Int):ch G (l.take (k+1)) s=(ch G (l.take k) s&&(dQ G l[k]&&(!aE l[k]||(l[k].next:Int)==aN (l.take k) s))):=by rw[kqi h,jK];simp only[ch];cases aE l[k]<;>simp
theorem ph(h:k<l.length)(s:Int):aA (l.take (k+1)) s=aA (l.take k) s++(if aE l[k] then [(l[k].at_,aN (l.take k) s)] else []):=by rw[kqi h,gb];simp only[aA]
theorem pz(h:ch G l s=true)(k:Nat):ch G (l.take k) s=true:=by rw[<-kz6 k l,jK,kqs] at h;exact h.1
theorem sq(h:ch G (l.take k) s=false):ch G l s=false:=by
 cases a:ch G l s with
 | false=>rfl
 | true=>rw[pz a k] at h;cases h
theorem vX(h:ch G l s=true)(c:k<l.length):dQ G l[k]=true/\(aE l[k]=true->(l[k].next:Int)=aN (l.take k) s):=by
 have a:=pz h (k+1);rw[oX c] at a;simp only[kqs,kxw,kxq,kqw] at a;exact⟨a.2.1,λd=>by
  rcases a.2.2 with b|b
  .rw[d] at b;cases b
  exact b⟩
theorem dX(P:Nat->List Bk->Prop)(d:∀i,G.length<=i->P i [])(f:∀i l,i<G.length->stands G i=true->blocks G (i+szAt G i)=some l->P (i+szAt G i) l->P i (bkAt G i::l)):
 ∀i l,blocks G i=some l->P i l:=by
 have c:∀n i l,G.length-i<=n->blocks G i=some l->P i l:=by
  intro n
  induction n with
  | zero =>intro i l g h;rw[aH (by omega)] at h;cases h;exact d i (by omega)
  | succ n j =>
   intro i l g h;by_cases e:G.length<=i
   .rw[aH e] at h;cases h;exact d i e
   cases b:stands G i with
   | false=>rw[dt (by omega) b] at h;cases h
   | true =>
    have hsz:=aC b;rw[aT (by omega) b] at h;cases a:blocks G (i+szAt G i) with
    | none=>rw[a] at h;cases h
    | some k =>rw[a] at h;simp only[kzs,Option.some.injEq] at h;subst h;exact f i k (by omega) b a (j _ _ (by omega) a)
 exact λi l h=>c _ i l (kqa _) h
theorem af(G:List Nat)(i:Nat):(bkAt G i).at_=(i:Int):=rfl
theorem aU(G:List Nat)(i:Nat):(bkAt G i).size=((szAt G i:Nat):Int):=rfl
theorem gl(h:stands G i=true):jk (aq (wd G i))=true:=by unfold stands aD at h;simp only[kqs] at h;exact h.1.1
theorem ji(b:Bk)(l:List Bk)(k:Nat):gk (b::l) (k+1)=gk l k:=by simp[gk]
theorem ot(b:Bk)(l:List Bk):gk (b::l) 0=b:=rfl
theorem zB(hn:G.length<=2048)(h:stands G i=true)(h1:128<=i)(h2:i%2=0):Ds (bkAt G i)=true:=by have h3:=(bC _).1 (gl h);have h4:=aC h;rw[fd];have a:(bkAt G i).kind=(aq (wd G i)).kind:=rfl;have e2:(aq (wd G i)).size=((szAt G i:Nat):Int):=rfl;rw[af,aU,a];omega
theorem bv(g:G.length<=2048):∀i l,blocks G i=some l->128<=i->i%2=0->i<=G.length ->
 2*l.length+i<=G.length/\∀k,k<l.length->Ds (gk l k)=true/\(k=0->(gk l k).at_=(i:Int))/\(0<k->(gk l k).at_=(gk l (k-1)).at_+(gk l (k-1)).size):=by
 refine dX _ (λi _ _ _ _=>⟨by simp;omega,λk a=>by simp at a⟩) (λi l hi c hb h d e _=>?_);have b:=aC c;obtain⟨h3,f⟩:=h (by omega) (by omega) b.2.2;refine⟨by rw[kq4];omega,λk a=>?_⟩;cases k with
 | zero=>exact⟨zB g c d e,λ_=>rfl,λh=>absurd h (by omega)⟩
 | succ k =>
  rw[kq4] at a;obtain⟨a,c,d⟩:=f k (by omega);rw[ji];refine⟨a,λh=>absurd h (by omega),λ_=>?_⟩;rw[Nat.add_sub_cancel];cases k with
  | zero=>rw[ot,c rfl,af,aU];omega
  | succ k=>rw[ji];exact d (by omega)
theorem pw(n:G.length<=2048)(h:blocks G i=some l)(e:128<=i)(f:i%2=0)(g:i<=G.length):cx l=0:=by
 obtain⟨h4,j⟩:=bv n i l h e f g;refine rQ (by omega) ?_;have b:∀k,k<=l.length->dl l k=true:=by
  intro k
  induction k with
  | zero=>intro _;rfl
  | succ k m =>
   intro hk;obtain⟨c,g2,d⟩:=j k (by omega);refine pM (m (by omega)) c ?_;rcases kjc k with a|a
   .exact .inl a
   right;obtain⟨m,rfl⟩:∃m,k=m+1:=⟨k-1,by omega⟩;exact d a
 exact b _ (kqa _)
theorem cj(h:blocks G i=some l)(b:i<G.length):0<l.length/\gk l 0=bkAt G i/\stands G i=true/\blocks G (i+szAt G i)=some (l.drop 1):=by
 cases c:stands G i with
 | false=>rw[dt b c] at h;cases h
 | true =>
  rw[aT b c] at h;cases a:blocks G (i+szAt G i) with
  | none=>rw[a] at h;cases h
  | some l' =>rw[a] at h;simp only[kzs,Option.some.injEq] at h;subst h;exact⟨by simp,rfl,rfl,by simp⟩
theorem jP(f:G.length<=2048)(h:blocks G i=some l)(c:128<=i)(d:i%2=0)(e:i<=G.length)(g:128<=s)(a:s%2=0)(b:s<=(i:Int)):eX l s=0:=by
 refine Ai (pw f h c d e) ⟨g,?_,a⟩;unfold oG;split
 .omega
 rename_i hl;have:=(bv f i l h c d e).2 0 (by omega);rw[this.2.1 rfl];exact b
theorem jS:∀ {l:List Bk} {s:Int} {p:Nat},p<(aA l s).length->∃k,∃h:k<l.length,aE l[k]=true/\(aA l s)[p]? = some (l[k].at_,aN (l.take k) s)/\(aA (l.take k) s).length=p:=by
 intro l
 induction l with
 | nil=>intro s p h;simp[aA] at h
 | cons b l g =>
  intro s p h;cases a:aE b with
  | true =>
   simp only[aA,a,if_true] at h |-;cases p with
   | zero=>exact⟨0,by simp,a,by simp[aN],rfl⟩
   | succ p =>
    obtain⟨k,f,c,d,e⟩:=g (s:=s+b.size) (p:=p) (by simpa using h);refine⟨k+1,by simpa using f,c,?_,?_⟩
    .simp only[kkj,d,kql,kxx,aN,a,if_true]
    simp only[kxx,aA,a,if_true,kq4,e]
  | false =>
   simp only[aA,a,kzp,if_false] at h |-;obtain⟨k,f,c,d,e⟩:=g (s:=s) (p:=p) h;refine⟨k+1,by simpa using f,c,?_,?_⟩
   .simp only[d,kql,kxx,aN,a,kzp,if_false]
   simp only[kxx,aA,a,kzp,if_false,e]
theorem mj(G:List Nat)(j v i:Nat):wd (G.set j v) i=if j=i/\j<G.length then v else wd G i:=by
 unfold wd;by_cases h:j=i
 .subst h;by_cases a:j<G.length
  .simp[a]
  simp[a]
 simp[h]
theorem iN(G:List Nat)(v:Nat)(h:j≠i):wd (G.set j v) i=wd G i:=by rw[mj,if_neg (λa=>h a.1)]
def nn (j v:Nat) (b:Bk):Bk:=if b.at_+1=(j:Int) then { b with next:=v } else b
theorem lS(v:Nat)(h:j≠i):stands (G.set j v) i=stands G i/\szAt (G.set j v) i=szAt G i:=by unfold stands szAt;rw[iN G v h,kq5];exact⟨rfl,rfl⟩
theorem vw{v:Nat}(h:j≠i)(b:j<G.length):bkAt (G.set j v) i=nn j v (bkAt G i):=by
 unfold bkAt nn;rw[iN G v h,mj];by_cases e:j=i+1
 .rw[if_pos ⟨e,b⟩,if_pos (by dsimp only;omega)]
 rw[if_neg (λa=>e a.1),if_neg (by dsimp only;omega)]
theorem y8{v:Nat}(hj:j%2=1)(e:j<G.length):∀i,i%2=0->blocks (G.set j v) i=(blocks G i).map (List.map (nn j v)):=by
 have b:∀n i,G.length-i<=n->i%2=0->blocks (G.set j v) i=(blocks G i).map (List.map (nn j v)):=by
  intro n
  induction n with
  | zero=>intro i a _;rw[aH (by rw[kq5];omega),aH (by omega)];rfl
  | succ n f =>
   intro i a h2;by_cases hi:G.length<=i
   .rw[aH (by rw[kq5];omega),aH (by omega)];rfl
   obtain⟨c,d⟩:=lS (G:=G) (j:=j) (i:=i) v (by omega);cases a:stands G i with
   | false=>rw[dt (by rw[kq5];omega) (by rw[c,a]),dt (by omega) a];rfl
   | true =>have hsz:=aC a;rw[aT (by rw[kq5];omega) (by rw[c,a]),aT (by omega) a,d,f _ (by omega) (by omega),vw (by omega) e];cases blocks G (i+szAt G i)<;>rfl
 exact λi=>b _ i (kqa _)
theorem lY(h:cx l=0){m:Nat}(d:k<l.length)(hm:m<k):(gk l m).at_<(gk l k).at_:=by
 obtain⟨_,b⟩:=dE h
 induction k with
 | zero=>omega
 | succ k f =>
  have c:=eF b (show k+1<l.length from d);have h4:=(fd _).1 (eF b (show k<l.length by omega)).1;have e:(gk l (k+1)).at_=(gk l k).at_+(gk l k).size:=by
   rcases c.2 with a|a
   .omega
   exact a
  rcases kq8 m k with a|a
  .have:=f (by omega) a;omega
  have:m=k:=(by omega);subst this;omega
theorem wO(h:cx l=0){v:Nat}(c:k<l.length)(d:l[k].at_+1=(j:Int)):l.map (nn j v)=l.set k { l[k] with next:=v }:=by
 apply List.ext_getElem (by simp);intro i a h2;have a:i<l.length:=by simpa using a
 rw[List.getElem_map,List.getElem_set];unfold nn;by_cases e:k=i
 .subst e;rw[if_pos d,if_pos rfl]
 rw[if_neg e];rw[if_neg ?_];intro h3;have e2:(gk l i).at_=(gk l k).at_:=by rw[bG l i a,bG l k c];omega
 rcases Nat.lt_or_gt_of_ne e with b|b
 .have:=lY h a b;omega
 have:=lY h c b;omega
theorem xZ{ws':List Nat}(n:∀b∈l,dQ ws' b=dQ G b)(e:∀b v,b∈l->dQ ws' { b with next:=v }=dQ G b):∀ {s:Int},ch G l s=true->∀ {k:Nat} (f:k<l.length),aE l[k]=true->∀v:Nat,
 ch ws' (l.set k { l[k] with next:=v }) s=((v:Int)==aN (l.take k) s)/\aA (l.set k { l[k] with next:=v }) s=aA l s:=by
 induction l with
 | nil=>intro s _ k f;simp at f
 | cons b l o =>
  intro s h k f d v;have i:=n b (by simp);have j:=e b v (by simp);have g:∀(l:List Bk),(∀b∈l,dQ ws' b=dQ G b)->∀s,ch ws' l s=ch G l s:=by
   intro l d
   induction l with
   | nil=>intro s;rfl
   | cons c l m =>intro s;simp only[ch];rw[d c (by simp),m (λb a=>d b (by simp[a])),m (λb a=>d b (by simp[a]))]
  cases k with
  | zero =>have d:aE b=true:=d;have c:aE { b with next:=v }=true:=d;simp only[ch,d,if_true,kqs] at h;simp only[kqk,kqn,ch,c,if_true,aA,d,List.take_zero,aN,j,h.1,kzx];rw[g l (λb a=>n b (by simp[a])),h.2.2,Bool.and_true];exact⟨rfl,trivial⟩
  | succ k =>
   have f:k<l.length:=by simpa using f
   have d:aE l[k]=true:=d;cases a:aE b with
   | true =>simp only[ch,a,if_true,kqs] at h;obtain⟨c,m⟩:=o (λb a=>n b (by simp[a])) (λb v a=>e b v (by simp[a])) h.2.2 f d v;simp only[kqj,kql,ch,a,if_true,aA,kxx,aN,i,h.1,h.2.1,kzx,c,m];exact⟨trivial,trivial⟩
   | false =>simp only[ch,a,kzp,if_false,kqs] at h;obtain⟨c,m⟩:=o (λb a=>n b (by simp[a])) (λb v a=>e b v (by simp[a])) h.2 f d v;simp only[kqj,kql,ch,a,kzp,if_false,aA,kxx,aN,i,h.1,kzx,c,m];exact⟨trivial,trivial⟩
def gy (n:Nat) (f s:Int):Bool:=(f%2 != 0)||((s%2 != 0)||(decide (s<128)||(decide (f<s)||decide ((n:Int)<f))))
def ui (n:Nat):Bool:=decide (256<=n)&&(decide (n<=2048)&&n%8==0)
theorem gF(h:gy n f s=false):f%2=0/\s%2=0/\128<=s/\s<=f/\f<=(n:Int):=by simp only[gy,kzo,kqt,kqb] at h;omega
theorem lm(n:Nat)(f s:Int):gy n f s=true↔¬ (f%2=0/\s%2=0/\128<=s/\s<=f/\f<=(n:Int)):=by
 constructor
 .intro h h2;have:gy n f s=false:=by simp only[gy,kzo,kqt,kqb];omega
  rw[this] at h;cases h
 intro h;cases a:gy n f s with
 | true=>rfl
 | false=>exact absurd (gF a) h
def l7 (G:List Nat) (f s:Int):Int:=match blocks G f.toNat with
 | none=>50
 | some l=>if ch G l s=true then 0 else 50
def bh (G:List Nat) (f s:Int):Int:=if ui G.length=true then (if gy G.length f s=true then 2 else l7 G f s) else 8
def gQ (G:List Nat) (f s:Int):List (Int × Int):=if bh G f s=0 then (match blocks G f.toNat with | none=>[] | some l=>aA l s) else []
theorem cu(h:bh G f s=0):ui G.length=true/\gy G.length f s=false/\∃l,blocks G f.toNat=some l/\ch G l s=true/\gQ G f s=aA l s:=by
 have b:=h;unfold bh at h;split at h
 .rename_i h1;split at h
  .simp at h
  rename_i h2;unfold l7 at h;cases a:blocks G f.toNat with
  | none=>rw[a] at h;simp at h
  | some l =>
   rw[a] at h;refine⟨h1,by simpa using h2,l,rfl,?_,?_⟩
   .dsimp only at h;split at h
    .assumption
    simp at h
   unfold gQ;rw[if_pos b,a]
 simp at h
theorem jb(a:ui G.length=true)(b:gy G.length f s=false)(c:blocks G f.toNat=some l):bh G f s=if ch G l s=true then 0 else 50:=by unfold bh l7;rw[if_pos a,b,c];rfl
theorem lA(h:ui n=true):256<=n/\n<=2048/\n%8=0:=by simp[ui] at h;omega
theorem bN :∀i l,blocks G i=some l->i%2=0->∀k (h:k<l.length),∃a,l[k]=bkAt G a/\a%2=0/\i<=a/\a<G.length/\stands G a=true/\blocks G a=some (l.drop k):=by
 refine dX _ (λi _ _ k h=>by simp at h) (λi l c b e g d k h=>?_);have hsz:=aC b;cases k with
 | zero=>exact⟨i,rfl,d,kqa _,c,b,by rw[aT c b,e];rfl⟩
 | succ k =>obtain⟨a,b,c,h5,d,e,f⟩:=g (by omega) k (by simpa using h);exact⟨a,b,c,by omega,d,e,f⟩
theorem F6{w:Nat}(h:jk (aq w)=true)(a:b.kind=(aq w).kind)(c:b.typ=(aq w).typ)(h1:b.kind=1):tyA b+1<128:=by have:=(bC _).1 h;rw[<-a,<-c] at this;unfold tyA;omega
theorem FN{v:Nat}(hj:128<=j){a:Nat}(g:stands G a=true)(u:Nat):dQ (G.set j v) { bkAt G a with next:=u }=dQ G (bkAt G a):=by
 have f:=gl g;unfold dQ;show ((bkAt G a).kind != 1||dm (G.set j v) { bkAt G a with next:=u })=_;by_cases c:(bkAt G a).kind=1
 .have h2:=F6 (b:=bkAt G a) f rfl rfl c;have d:wd (G.set j v) (tyA (bkAt G a))=wd G (tyA (bkAt G a)):=iN G v (by omega);have e:wd (G.set j v) (tyA (bkAt G a)+1)=wd G (tyA (bkAt G a)+1):=iN G v (by omega);unfold dm;show (_||(b8 (wd (G.set j v) (tyA (bkAt G a))) (wd (G.set j v) (tyA (bkAt G a)+1))&&(bkAt G a).size==((bp (wd (G.set j v) (tyA (bkAt G a))%256):Nat):Int)))=_;rw[d,e]
 have:((bkAt G a).kind != 1)=true:=by rw[kqx];exact c
 rw[this,kvd,kvd]
theorem xP(h:bh G f s=0){p:Nat}(I:p<(gQ G f s).length):∃a t:Nat,(gQ G f s)[p]? = some ((a:Int),(t:Int))/\128<=a/\a+1<G.length/\wd G (a+1)=t/\t<=2048 /\
 ∀v,(v=t->bh (G.set (a+1) v) f s=0)/\(v≠t->bh (G.set (a+1) v) f s=50):=by
 obtain⟨D,E,l,y,F,N⟩:=cu h;obtain⟨a1,J,K,a4,a5⟩:=gF E;have g:=lA D;rw[N] at I |-;obtain⟨k,r,H,O,-⟩:=jS I;obtain⟨a,e,b1,b2,b3,L,-⟩:=bN _ _ y (by omega) k r;have C:=jP (i:=f.toNat) g.2.1 y (by omega) (by omega) (by omega) (s:=s) K J (by omega);obtain⟨x,A,B,hs3⟩:=dx C;have hbd:=iw x (kjn r) A B;have w:=(vX F r).2 H;have hsz:=aC L;have d:a+1<G.length:=(by omega);have n:wd G (a+1)=l[k].next:=by rw[e];rfl
 have o:l[k].at_=(a:Int):=by rw[e];rfl
 refine⟨a,l[k].next,by rw[O,o,w],by omega,d,n,by omega,λv=>?_⟩;have q:=y8 (G:=G) (j:=a+1) (v:=v) (by omega) d f.toNat (by omega);rw[y,kzs,wO x r (by rw[o];omega)] at q;have c:∀b∈l,∀u,dQ (G.set (a+1) v) { b with next:=u }=dQ G b:=by intro b g u;obtain⟨m,P,rfl⟩:=kqy g;obtain⟨a',M,-,-,-,z,-⟩:=bN _ _ y (by omega) m P;rw[M];exact FN (by omega) z u
 obtain⟨z,-⟩:=xZ (G:=G) (ws':=G.set (a+1) v) (λb g=>by have:=c b g b.next;exact this) (λb u g=>c b g u) F r H v;rw[jb (by rw[kq5];exact D) (by rw[kq5];exact E) q,z,<-w];constructor
 .intro m;subst m;simp
 intro m;have:((v:Int)==(l[k].next:Int))=false:=(by rw[kqc];omega);rw[this];simp
def fp:List Nat->Nat->List Nat->List Nat
 | G,_,[]=>G
 | G,t,v::l=>fp (G.set t v) (t+1) l
theorem lN(l:List Nat):∀(G:List Nat) (t:Nat),(fp G t l).length=G.length:=by
 induction l with
 | nil=>intro G t;rfl
 | cons v l a=>intro G t;simp only[fp,a,kq5]
theorem rl(l:List Nat):∀(G:List Nat) (t i:Nat),t+l.length<=G.length->wd (fp G t l) i=if t<=i/\i<t+l.length then l[i-t]?.getD 0 else wd G i:=by
 induction l with
 | nil=>intro G t i _;simp only[fp,kxd];rw[if_neg (by omega)]
 | cons v l b =>
  intro G t i c;rw[kq4] at c;simp only[fp,kq4];rw[b (G.set t v) (t+1) i (by rw[kq5];omega),mj];by_cases a:t=i
  .subst a;rw[if_neg (by omega),if_pos ⟨rfl,by omega⟩,if_pos (by omega)];simp
  by_cases b:t+1<=i/\i<t+1+l.length
  .rw[if_pos b,if_pos (by omega)];obtain⟨m,rfl⟩:∃m,i=t+1+m:=⟨i-(t+1),by omega⟩;rw[show t+1+m-(t+1)=m by omega,show t+1+m-t=m+1 by omega];simp
  rw[if_neg b,if_neg (λh=>a h.1),if_neg (by omega)]
theorem eC{xs:List Nat}(g:xs.length=G.length):∀i,(∀j,i<=j->wd xs j=wd G j)->blocks xs i=blocks G i:=by
 have c:∀n i,G.length-i<=n->(∀j,i<=j->wd xs j=wd G j)->blocks xs i=blocks G i:=by
  intro n
  induction n with
  | zero=>intro i h _;rw[aH (by omega),aH (by omega)]
  | succ n k =>
   intro i h b;by_cases hi:G.length<=i
   .rw[aH (by omega),aH (by omega)]
   have d:stands xs i=stands G i:=by unfold stands;rw[b i (kqa _),g]
   have e:szAt xs i=szAt G i:=by unfold szAt;rw[b i (kqa _)]
   have f:bkAt xs i=bkAt G i:=by unfold bkAt;rw[b i (kqa _),b (i+1) (by omega)]
   cases a:stands G i with
   | false=>rw[dt (by omega) (by rw[d,a]),dt (by omega) a]
   | true =>have hsz:=aC a;rw[aT (by omega) (by rw[d,a]),aT (by omega) a,e,f,k _ (by omega) (λj hj=>b j (by omega))]
 exact λi=>c _ i (kqa _)
theorem tJ{xs:List Nat}(c:∀j,j<128->wd xs j=wd G j):∀ {l:List Bk},(∀b∈l,b.kind=1->tyA b+1<128)->∀s,ch xs l s=ch G l s:=by
 intro l
 induction l with
 | nil=>intro _ s;rfl
 | cons b l d =>
  intro h s;have e:dQ xs b=dQ G b:=by
   unfold dQ;by_cases a:b.kind=1
   .have h2:=h b (by simp) a;unfold dm;rw[c _ (by omega),c _ (by omega)]
   have:(b.kind != 1)=true:=by rw[kqx];exact a
   rw[this,kvd,kvd]
  simp only[ch,e];rw[d (λb a=>h b (by simp[a])),d (λb a=>h b (by simp[a]))]
theorem jN(h:blocks G i=some l)(f:i%2=0):∀b∈l,b.kind=1->tyA b+1<128:=by intro b g c;obtain⟨m,j,rfl⟩:=kqy g;obtain⟨a,e,-,-,-,d,-⟩:=bN _ _ h f m j;rw[e] at c |-;exact F6 (gl d) rfl rfl c
def ei (G:List Nat) (f t:Int):Int:=if bh G f t=0 then (match blocks G f.toNat with | some (b::_)=>if b.mark then 0 else 6 | _=>6) else bh G f t
def el (G:List Nat) (f:Nat):List Nat:=(List.range (szAt G f)).map λi=>if i=0 then cQ { aq (wd G f) with mark:=false } else if i=1 then 0 else wd G (f+i)
theorem xT{t:Int}(h:ei G f t=0):bh G f t=0/\∃a:Nat,f=(a:Int)/\a%2=0/\128<=a/\a<G.length/\stands G a=true/\aE (bkAt G a)=true/\∃l,blocks G a=some (bkAt G a::l)/\blocks G (a+szAt G a)=some l:=by
 unfold ei at h;split at h
 .rename_i h0;refine⟨h0,?_⟩;obtain⟨h1,k,l,c,h4,h5⟩:=cu h0;obtain⟨a1,a2,a3,a4,a5⟩:=gF k;rw[c] at h;cases l with
  | nil=>simp at h
  | cons b l =>
   dsimp only at h;split at h
   .rename_i hm;refine⟨f.toNat,by omega,by omega,by omega,?_,?_⟩
    .rcases kq8 f.toNat G.length with d|d
     .exact d
     rw[aH d] at c;simp at c
    have e:f.toNat<G.length:=by
     rcases kq8 f.toNat G.length with d|d
     .exact d
     rw[aH d] at c;simp at c
    obtain⟨_,d,i,j⟩:=cj c e;have d:b=bkAt G f.toNat:=d;subst d;refine⟨i,?_,l,c,by simpa using j⟩;have m:=(bC _).1 (gl i);have g:(aq (wd G f.toNat)).mark=true:=hm;have n:(bkAt G f.toNat).kind=1:=by
     rcases m.2 with d|d
     .exact d.1
     rw[g] at d;exact absurd d.2.2.1 (by simp)
    simp[aE,n];exact hm
   simp at h
 rename_i h0;exact absurd h h0
theorem gY(G:List Nat)(f:Nat):(el G f).length=szAt G f:=by simp[el]
theorem kt(G:List Nat)(f i:Nat)(h:i<szAt G f):(el G f)[i]? = some (if i=0 then cQ { aq (wd G f) with mark:=false } else if i=1 then 0 else wd G (f+i)):=by simp[el,h]
theorem C6{w:Nat}(h:jk (aq w)=true)(b:(aq w).kind=1):jk { aq w with mark:=false }=true:=by
 have:=(bC _).1 h;rw[bC];show _/\((aq w).kind=1/\_\/_);rcases this.2 with a|a
 .exact ⟨this.1,.inl a⟩
 rw[b] at a;exact absurd a.1 (by omega)
theorem fO{t:Int}(h:ei G f t=0):∃a u n:Nat,f=(a:Int)/\t=(u:Int)/\n=szAt G a/\2<=n/\n<=10/\128<=u/\u<=a/\a+n<=G.length/\stands G a=true/\aE (bkAt G a)=true /\
 (∃l,blocks G a=some (bkAt G a::l)/\blocks G (a+n)=some l/\blocks (fp G u (el G a)) (a+n)=some l/\bh (fp G u (el G a)) ((a+n:Nat):Int) ((u+n:Nat):Int)=0 /\
  gQ G f t=((a:Int),(u:Int))::gQ (fp G u (el G a)) ((a+n:Nat):Int) ((u+n:Nat):Int)) /\
 wd (fp G u (el G a)) u=cQ { aq (wd G a) with mark:=false }/\jk { aq (wd G a) with mark:=false }=true:=by
 obtain⟨E,a,rfl,D,c2,c3,q,m,l,r,x⟩:=xT h;obtain⟨y,F,l',z,A,H⟩:=cu E;obtain⟨a1,a2,a3,a4,a5⟩:=gF F;have B:=lA y;rw[kqf,r] at z;cases z;obtain⟨u,rfl⟩:=kqz (show 0<=t by omega);have p:=aC q;have C:(bkAt G a).kind=1:=by simp[aE] at m;exact m.1
 have s:=(bC _).1 (gl q);have o:szAt G a<=10:=by
  have e1:(aq (wd G a)).size=((szAt G a:Nat):Int):=rfl;have c:(aq (wd G a)).kind=1:=C;rcases s.2 with b|b
  .omega
  rw[c] at b;exact absurd b.1 (by omega)
 have w:=C6 (gl q) C;have d:=gY G a;have k:∀i,wd (fp G u (el G a)) i=if u<=i/\i<u+szAt G a then (el G a)[i-u]?.getD 0 else wd G i:=by intro i;rw[rl _ _ _ _ (by rw[d];omega),d]
 have c:∀j,a+szAt G a<=j->wd (fp G u (el G a)) j=wd G j:=λj b=>by rw[k,if_neg (by omega)]
 have g:blocks (fp G u (el G a)) (a+szAt G a)=some l:=by rw[eC (lN _ _ _) _ c,x]
 have v:∀j,j<128->wd (fp G u (el G a)) j=wd G j:=λj b=>by rw[k,if_neg (by omega)]
 have j:ch G l ((u:Int)+(szAt G a:Nat))=true:=by simp only[ch,m,if_true,kqs] at A;exact A.2.2
 have I:ch (fp G u (el G a)) l ((u+szAt G a:Nat):Int)=true:=by
  rw[tJ v (λb B=>jN r D b (by simp[B]))]
  simpa using j
 have b:bh (fp G u (el G a)) ((a+szAt G a:Nat):Int) ((u+szAt G a:Nat):Int)=0:=by
  rw[jb (by rw[lN];exact y) ?_ (by rw[kqf];exact g),if_pos I];rw[lN];cases e:gy G.length ((a+szAt G a:Nat):Int) ((u+szAt G a:Nat):Int) with
  | false=>rfl
  | true=>exact absurd (by omega) ((lm _ _ _).1 e)
 refine⟨a,u,szAt G a,rfl,rfl,rfl,p.1,o,by omega,by omega,p.2.2,q,m,⟨l,r,x,g,b,?_⟩,?_,w⟩
 .rw[H];have e:gQ (fp G u (el G a)) ((a+szAt G a:Nat):Int) ((u+szAt G a:Nat):Int)=aA l ((u+szAt G a:Nat):Int):=by unfold gQ;rw[if_pos b,kqf,g]
  rw[e];simp only[aA,m,if_true,af,aU];simp
 rw[k,if_pos (by omega),kvu,kt _ _ _ (by omega),kq9,if_pos rfl]
def bK (b:Bk) (s:Int):Nat:=if aE b then s.toNat else 0
def fD (b:Bk) (s:Int):Int:=if aE b then s+b.size else s
def aZ:List Bk->Int->List En
 | [],_=>[]
 | b::l,s=>(if b.kind=1/\b.next≠bK b s then [⟨b.at_+1,bK b s⟩] else [])++aZ l (fD b s)
def fwB:List Bk->Int->List Bk
 | [],_=>[]
 | b::l,s=>(if b.kind=1 then { b with next:=bK b s } else b)::fwB l (fD b s)
def au:List Nat->List En->List Nat
 | G,[]=>G
 | G,e::l=>au (if 0<=e.a/\e.a<(G.length:Int) then G.set e.a.toNat e.v else G) l
theorem aG(l:List En):∀G:List Nat,(au G l).length=G.length:=by
 induction l with
 | nil=>intro G;rfl
 | cons e l a=>intro G;simp only[au,a];split<;>simp
theorem fh(a b:List En):∀G:List Nat,au G (a++b)=au (au G a) b:=by
 induction a with
 | nil=>intro G;rfl
 | cons e a c=>intro G;simp only[kzq,au,c]
theorem bj(l:List En):∀(G:List Nat) (i:Nat),(∀e∈l,e.a≠(i:Int))->wd (au G l) i=wd G i:=by
 induction l with
 | nil=>intro G i _;rfl
 | cons e l c =>
  intro G i h;simp only[au];rw[c _ i (λx b=>h x (by simp[b]))];split
  .rename_i hb;exact iN G _ (by have:=h e (by simp);omega)
  rfl
theorem rx(a b:List Bk):∀s,aZ (a++b) s=aZ a s++aZ b (aN a s):=by
 induction a with
 | nil=>intro s;rfl
 | cons x a c =>intro s;simp only[kzq,aZ,c,aN,fD,kx9];cases aE x<;>simp
theorem qJ :∀i l,blocks G i=some l->∀s,∀e∈aZ l s,(i:Int)+1<=e.a/\e.a<(G.length:Int):=by
 refine dX _ (λi _ s e h=>by simp[aZ] at h) (λi l hi b hb c s e h=>?_);have hsz:=aC b;simp only[aZ,kz1] at h;rcases h with h|h
 .split at h
  .simp only[kq0,kzm,or_false] at h;subst h;show (i:Int)+1<=(bkAt G i).at_+1/\(bkAt G i).at_+1<_;rw[af];omega
  simp at h
 have:=c _ e h;omega
theorem pU{v:Nat}(h:i+1<G.length):bkAt (G.set (i+1) v) i={ bkAt G i with next:=v }:=by rw[vw (by omega) h];unfold nn;rw[if_pos (by rw[af];omega)]
theorem zr{v:Nat}(h:b.next=v):{ b with next:=v }=b:=by subst h;rfl
theorem tV:∀n (G:List Nat) (i:Nat) (l:List Bk),G.length-i<=n->blocks G i=some l->∀s,blocks (au G (aZ l s)) i=some (fwB l s)/\∀j,j<=i->wd (au G (aZ l s)) j=wd G j:=by
 intro n
 induction n with
 | zero =>intro G i l A h s;rw[aH (by omega)] at h;cases h;exact⟨by simp only[aZ,au,fwB];exact aH (by omega),λj _=>rfl⟩
 | succ n B =>
  intro G i l A h s;by_cases c:G.length<=i
  .rw[aH c] at h;cases h;exact⟨by simp only[aZ,au,fwB];exact aH c,λj _=>rfl⟩
  have c:i<G.length:=by omega
  cases k:stands G i with
  | false=>rw[dt c k] at h;cases h
  | true =>
   have hsz:=aC k;rw[aT c k] at h;cases o:blocks G (i+szAt G i) with
   | none=>rw[o] at h;cases h
   | some f =>
    rw[o] at h;simp only[kzs,Option.some.injEq] at h;subst h;obtain⟨a,t,b,q,r,e,d⟩:∃a,au G (aZ (bkAt G i::f) s)=au a (aZ f (fD (bkAt G i) s))/\a.length=G.length/\bkAt a i=(if (bkAt G i).kind=1 then { bkAt G i with next:=bK (bkAt G i) s } else bkAt G i)/\stands a i=stands G i/\szAt a i=szAt G i/\∀j,j≠i+1->wd a j=wd G j:=by
     by_cases g:(bkAt G i).kind=1/\(bkAt G i).next≠bK (bkAt G i) s
     .refine ⟨G.set (i+1) (bK (bkAt G i) s),?_,by simp,?_,(lS _ (by omega)).1,(lS _ (by omega)).2,λj v=>iN G _ (by omega)⟩
      .simp only[aZ];rw[if_pos g,fh];simp only[au];rw[if_pos (by rw[af];omega),af,show ((i:Int)+1).toNat=i+1 by omega]
      rw[pU (by omega),if_pos g.1]
     refine⟨G,?_,rfl,?_,rfl,rfl,λj _=>rfl⟩
     .simp only[aZ];rw[if_neg g,kz5]
     split
     .rename_i hk;have:(bkAt G i).next=bK (bkAt G i) s:=by
       rcases Nat.decEq (bkAt G i).next (bK (bkAt G i) s) with m|m
       .exact absurd ⟨hk,m⟩ g
       exact m
      exact (zr this).symm
     rfl
    have p:blocks a (i+szAt G i)=some f:=by rw[eC b _ (λj v=>d j (by omega)),o]
    obtain⟨u,g⟩:=B a (i+szAt G i) f (by omega) p (fD (bkAt G i) s);rw[t];obtain⟨E,z⟩:=xq (aZ f (fD (bkAt G i) s));rw[z] at u g |-;have m:wd (au a E) i=wd a i:=g i (by omega);have w:wd (au a E) (i+1)=wd a (i+1):=g (i+1) (by omega);have x:stands (au a E) i=stands a i:=by unfold stands;rw[m,aG]
    have f:szAt (au a E) i=szAt a i:=by unfold szAt;rw[m]
    have y:bkAt (au a E) i=bkAt a i:=by unfold bkAt;rw[m,w]
    refine⟨?_,λj v=>by rw[g j (by omega)];exact d j (by omega)⟩;rw[aT (by rw[aG,b];exact c) (by rw[x,r,k]),f,y,e,u,q];rfl
theorem Ef :∀ {s:Int},aN (fwB l s) s=aN l s/\aA (fwB l s) s=aA l s/\(fwB l s).map (λb=>(b.at_,b.size,b.kind,b.mark))=l.map (λb=>(b.at_,b.size,b.kind,b.mark)):=by
 induction l with
 | nil=>intro s;exact⟨rfl,rfl,rfl⟩
 | cons b l e =>
  intro s;have j:aE (if b.kind=1 then { b with next:=bK b s } else b)=aE b:=by split<;>rfl
  have f:(if b.kind=1 then { b with next:=bK b s } else b).size=b.size:=by split<;>rfl
  have g:(if b.kind=1 then { b with next:=bK b s } else b).at_=b.at_:=by split<;>rfl
  have h:(if b.kind=1 then { b with next:=bK b s } else b).kind=b.kind:=by split<;>rfl
  have i:(if b.kind=1 then { b with next:=bK b s } else b).mark=b.mark:=by split<;>rfl
  simp only[fwB,aN,aA,kj4,j,f,g,h,i];unfold fD;split
  .obtain ⟨a,c,d⟩:=e (s:=s+b.size);rw[a,c,d];exact⟨rfl,rfl,rfl⟩
  obtain⟨a,c,d⟩:=e (s:=s);rw[a,c,d];exact⟨rfl,rfl,rfl⟩
end Go.Proofs.YtpcajamacpbjcaaGreat
