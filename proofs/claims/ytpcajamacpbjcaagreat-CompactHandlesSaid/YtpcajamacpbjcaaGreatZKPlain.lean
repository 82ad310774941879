/- Texts laid together: Base BrkP BrkQ BrkX HeapP KindP FwdP FwdQ FwdR SldP FwbP. -/
import Derived.Test.YtpcajamacpbjcaaGreatRows
import Derived.WalkKit
import Derived.WalkSpells
import Derived.WalkLawsBesides
import Derived.Deep.QuietTactic
import Derived.BigQuiet
import Derived.Lib.Hide
import Derived.Deep.AppendLies
import Derived.Deep.OwnRows
import Derived.Deep.Cut
import Derived.Deep.Draws
import Derived.Deep.LoopGhost
import Derived.Deep.RegionWith
import Derived.WalkSmall
namespace Go.Proofs.YtpcajamacpbjcaaGreat
open Go.RowKit
def Rd (w:World) (B:Nat) (A:Option Addr) (xs:List Value):Prop:=
 xs≠[]→∃ b off,A=some ⟨b,off,none⟩∧b<B∧∀ j (h:j<xs.length),w.cell? ⟨b,off+j,none⟩=some xs[j]
section
variable {w w':World} {B B':Nat} {A:Option Addr} {xs:List Value}
theorem Rd.nil_:Rd w B A []:=fun h=>absurd rfl h
theorem Rd.keep (h:Rd w B A xs) (hk:∀ p:Addr,p.block<B→w'.cell? p=w.cell? p):Rd w' B A xs:=fun hn=>by
 obtain ⟨b,off,e,hb,hc⟩:=h hn
 exact ⟨b,off,e,hb,fun j hj=>(hk ⟨b,off+j,none⟩ hb).trans (hc j hj)⟩
theorem Rd.more (h:Rd w B A xs) (hB:B≤B'):Rd w B' A xs:=fun hn=>by
 obtain ⟨b,off,e,hb,hc⟩:=h hn
 exact ⟨b,off,e,by omega,hc⟩
theorem Rd.below (h:Rd w B A xs) (hb:Below B w w'):Rd w' B A xs:=h.keep fun _ hp=>hb.cell hp
theorem Rd.up (h:Rd w B A xs) (hb:Below B w w') (hB:B≤B'):Rd w' B' A xs:=(h.below hb).more hB
theorem Rd.alloc (h:Rd w B A xs) (hB:B≤w.heap.size) (o:Obj):Rd (w.alloc o) B A xs:=h.keep fun p hp=>World.cell?_alloc_lt w o p (by omega)
theorem Rd.drop_ (h:Rd w B A xs) (k:Nat):Rd w B (A.map (·.add k)) (xs.drop k):=fun hn=>by
 have hlt:k<xs.length:=by
   rcases Nat.lt_or_ge k xs.length with h1|h1
   · exact h1
   · exact absurd (List.drop_eq_nil_of_le h1) hn
 obtain ⟨b,off,rfl,hb,hc⟩:=h (by intro e;subst e;simp at hlt)
 refine ⟨b,off+k,?_,hb,fun j hj => ?_⟩
 · simp only[Option.map_some,Addr.add];split <;> simp_all
 · have hj':k+j<xs.length:=by simp at hj;omega
   rw[List.getElem_drop,Nat.add_assoc]
   exact hc _ hj'
theorem Rd.take_ (h:Rd w B A xs) (k:Nat):Rd w B A (xs.take k):=fun hn=>by
 obtain ⟨b,off,rfl,hb,hc⟩:=h (by intro e;subst e;simp at hn)
 exact ⟨b,off,rfl,hb,fun j hj=>by rw[List.getElem_take];exact hc j (by simp at hj;omega)⟩
theorem Rd.of_own {base size n:Nat} {e:TypeId} {c:Nat} (h:w.ownsRow base e size (.slice A n c) n xs):Rd w w.heap.size A xs:=fun hn=>by
 have h0:0<n:=by
  rcases Nat.eq_zero_or_pos n with h1|h1
  · have:=h.1;subst h1;simp at this;exact absurd this hn
  · exact h1
 obtain ⟨g,cap,hv,_,hlt⟩:=h.form h0
 have hA:A=some ⟨g,0,none⟩:=by injection hv
 subst hA
 refine ⟨g,0,rfl,hlt,fun j hj => ?_⟩
 have:=h.cells (g:=g) rfl j xs[j] (List.getElem?_eq_getElem hj)
 have e:(⟨g,0,none⟩:Addr).add j=⟨g,0+j,none⟩:=by unfold Addr.add;split <;> simp_all
 rwa [e] at this
end
theorem zcw {α:Type} (f:α→List Value) (sz:Nat) (hf:∀ x,(f x).length=sz) (l:List α):(l.flatMap f).length=l.length * sz:=by
 induction l with
 | nil=>simp
 | cons x l ih=>rw[List.flatMap_cons,List.length_append,hf,ih,List.length_cons,Nat.add_mul];omega
theorem zhf {α:Type} (f:α→List Value) (sz:Nat) (hf:∀ x,(f x).length=sz) (l:List α) (k j:Nat) (hk:k<l.length) (hj:j<sz) :
  (l.flatMap f)[k * sz+j]? = (f l[k])[j]?:=by
 induction l generalizing k with
 | nil=>simp at hk
 | cons x l ih =>
  rw[List.flatMap_cons]
  cases k with
  | zero=>rw[List.getElem?_append_left (by rw[hf];omega)];simp
  | succ k =>
   rw[List.getElem?_append_right (by rw[hf,Nat.add_mul];omega),hf]
   have:(k+1) * sz+j - sz=k * sz+j:=by rw[Nat.add_mul];omega
   rw[this,ih k (by simpa using hk)]
   simp
theorem Rd.at_flat {α:Type} {f:α→List Value} {sz:Nat} {w:World} {B:Nat} {A:Option Addr} {l:List α} (hf:∀ x,(f x).length=sz) (h:Rd w B A (l.flatMap f)) (hsz:0<sz) {k:Nat} (hk:k<l.length) :
  ∃ b off,A=some ⟨b,off,none⟩∧b<B∧∀ j,j<sz→w.cell? ⟨b,off+k * sz+j,none⟩=(f l[k])[j]?:=by
 have hl:=zcw f sz hf l
 have hpos:0<(l.flatMap f).length:=by rw[hl];exact Nat.mul_pos (by omega) hsz
 obtain ⟨b,off,rfl,hb,hc⟩:=h (by intro e;rw[e] at hpos;simp at hpos)
 refine ⟨b,off,rfl,hb,fun j hj => ?_⟩
 have hlt:k * sz+j<(l.flatMap f).length:=by
  rw[hl]
  have:(k+1) * sz≤l.length * sz:=Nat.mul_le_mul_right _ hk
  rw[Nat.add_mul] at this;omega
 have h1:=hc _ hlt
 rw[←Nat.add_assoc] at h1
 rw[h1,←zhf f sz hf l k j hk hj]
 exact (List.getElem?_eq_getElem hlt).symm
structure En where
 a:Int
 v:Nat
 deriving DecidableEq,Inhabited
def En.cells (e:En):List Value:=[.int .i64 e.a,.int .u64 (e.v:Int)]
structure Bk where
 at_:Int
 size:Int
 kind:Int
 typ:Int
 mark:Bool
 next:Nat
 deriving DecidableEq,Inhabited
def Bk.cells (b:Bk):List Value:=[.int .i64 b.at_,.int .i64 b.size,.int .i64 b.kind,.int .i64 b.typ,.bool b.mark,.int .u64 (b.next:Int)]
def Bk.val (b:Bk):Value:=.agg #[.int .i64 b.at_,.int .i64 b.size,.int .i64 b.kind,.int .i64 b.typ,.bool b.mark,.int .u64 (b.next:Int)]
def zcf (x:Int):List Value:=[.int .i64 x]
def zaj (x:Nat):List Value:=[.int .u64 (x:Int)]
def RdE (w:World) (B:Nat) (A:Option Addr) (l:List En):Prop:=Rd w B A (l.flatMap En.cells)
def RdB (w:World) (B:Nat) (A:Option Addr) (l:List Bk):Prop:=Rd w B A (l.flatMap Bk.cells)
def RdI (w:World) (B:Nat) (A:Option Addr) (l:List Int):Prop:=Rd w B A (l.flatMap zcf)
def RdW (w:World) (B:Nat) (A:Option Addr) (l:List Nat):Prop:=Rd w B A (l.flatMap zaj)
theorem En.len (x:En):x.cells.length=2:=rfl
theorem Bk.len (x:Bk):x.cells.length=6:=rfl
theorem zif (x:Int):(zcf x).length=1:=rfl
theorem zbe (x:Nat):(zaj x).length=1:=rfl
theorem RdE.at_ {w:World} {B:Nat} {A:Option Addr} {l:List En} (h:RdE w B A l) {k:Nat} (hk:k<l.length) :
  ∃ b off,A=some ⟨b,off,none⟩∧b<B∧w.cell? ⟨b,off+k * 2,none⟩=some (.int .i64 l[k].a)∧w.cell? ⟨b,off+k * 2+1,none⟩=some (.int .u64 (l[k].v:Int)):=by
 obtain ⟨b,off,e,hb,hc⟩:=Rd.at_flat En.len h (by omega) hk
 exact ⟨b,off,e,hb,hc 0 (by omega),hc 1 (by omega)⟩
theorem RdB.at_ {w:World} {B:Nat} {A:Option Addr} {l:List Bk} (h:RdB w B A l) {k:Nat} (hk:k<l.length) :
  ∃ b off,A=some ⟨b,off,none⟩∧b<B∧w.cell? ⟨b,off+k * 6,none⟩=some (.int .i64 l[k].at_)∧w.cell? ⟨b,off+k * 6+1,none⟩=some (.int .i64 l[k].size) ∧
   w.cell? ⟨b,off+k * 6+2,none⟩=some (.int .i64 l[k].kind)∧w.cell? ⟨b,off+k * 6+3,none⟩=some (.int .i64 l[k].typ) ∧
   w.cell? ⟨b,off+k * 6+4,none⟩=some (.bool l[k].mark)∧w.cell? ⟨b,off+k * 6+5,none⟩=some (.int .u64 (l[k].next:Int)):=by
 obtain ⟨b,off,e,hb,hc⟩:=Rd.at_flat Bk.len h (by omega) hk
 exact ⟨b,off,e,hb,hc 0 (by omega),hc 1 (by omega),hc 2 (by omega),hc 3 (by omega),hc 4 (by omega),hc 5 (by omega)⟩
theorem RdI.at_ {w:World} {B:Nat} {A:Option Addr} {l:List Int} (h:RdI w B A l) {k:Nat} (hk:k<l.length) :
  ∃ b off,A=some ⟨b,off,none⟩∧b<B∧w.cell? ⟨b,off+k,none⟩=some (.int .i64 l[k]):=by
 obtain ⟨b,off,e,hb,hc⟩:=Rd.at_flat zif h (by omega) hk
 have:=hc 0 (by omega)
 simp only[Nat.mul_one,Nat.add_zero] at this
 exact ⟨b,off,e,hb,this⟩
theorem RdW.at_ {w:World} {B:Nat} {A:Option Addr} {l:List Nat} (h:RdW w B A l) {k:Nat} (hk:k<l.length) :
  ∃ b off,A=some ⟨b,off,none⟩∧b<B∧w.cell? ⟨b,off+k,none⟩=some (.int .u64 (l[k]:Int)):=by
 obtain ⟨b,off,e,hb,hc⟩:=Rd.at_flat zbe h (by omega) hk
 have:=hc 0 (by omega)
 simp only[Nat.mul_one,Nat.add_zero] at this
 exact ⟨b,off,e,hb,this⟩
theorem zcq {B:Nat} {w:World} {o:Obj} (h:B≤w.heap.size):B≤(w.alloc o).heap.size:=by rw[World.size_alloc];omega
theorem zcr {B:Nat} {a w:World} (h:Below B a w) (n:Nat):Below B a (w.drewN n):=⟨h.os,h.tape,h.output,h.size,h.block⟩
theorem zns {w w':World} {B b:Nat} {t:TypeId} {n:Nat} {f:Nat→Value} (h:w.rowIs b t n f) (hb:Below B w w') (hlt:b<B):w'.rowIs b t n f:=h.of_block (hb.block b hlt)
theorem zIv {k:IntKind} {a b:Int} (h:a=b):Ending.returned (.int k a)=.returned (.int k b):=by rw[h]
theorem box_of {w w1:World} {cs:Array Value} {t:TypeId} (hB:Below (w.heap.size+1) (w.alloc (.cells cs t)) w1) :
  (∀ i,w1.cell? ⟨w.heap.size,i,none⟩=cs[i]?)∧(∀ i,w1.frozen? ⟨w.heap.size,i,none⟩=false)∧Below w.heap.size w w1∧w.heap.size<w1.heap.size:=by
 have hb:w1.heap[w.heap.size]? = some (.cells cs t (0,0)):=(hB.block w.heap.size (by omega)).trans (heap_alloc_new w _)
 refine ⟨fun i=>cell_of_row w1 _ i cs t (0,0) hb,fun i=>by simp[World.frozen?,hb],((Below.refl _ _).alloc (Nat.le_refl _) _).trans (hB.mono (by omega)),?_⟩
 have:=hB.size
 simp at this
 omega
def Bx (w:World) (g:Nat) (t:TypeId) (cs:Array Value):Prop:=w.heap[g]? = some (.cells cs t (0,0))
section
variable {w w':World} {g B:Nat} {t:TypeId} {cs:Array Value}
theorem Bx.lt (h:Bx w g t cs):g<w.heap.size:=by
 rcases Nat.lt_or_ge g w.heap.size with hlt|hge
 · exact hlt
 · unfold Bx at h;rw[Array.getElem?_eq_none hge] at h;cases h
theorem Bx.cell (h:Bx w g t cs) (i:Nat):w.cell? ⟨g,i,none⟩=cs[i]?:=cell_of_row w g i cs t (0,0) h
theorem Bx.frozen (h:Bx w g t cs) (i:Nat):w.frozen? ⟨g,i,none⟩=false:=by
 unfold Bx at h
 simp[World.frozen?,h]
theorem Bx.new (w:World) (t:TypeId) (cs:Array Value):Bx (w.alloc (.cells cs t)) w.heap.size t cs:=heap_alloc_new w _
theorem Bx.alloc (h:Bx w g t cs) (o:Obj):Bx (w.alloc o) g t cs:=(Below.heap_alloc w o g h.lt).trans h
theorem Bx.far (h:Bx w g t cs) {p:Addr} (hp:g≠p.block) (u:Value):Bx (w.setCell p u) g t cs:=(Below.heap_setCell w p u g hp).trans h
theorem Bx.up (h:Bx w g t cs) (hb:Below B w w') (hg:g<B):Bx w' g t cs:=(hb.block g hg).trans h
theorem Bx.set_ (h:Bx w g t cs) (i:Nat) (u:Value):Bx (w.setCell ⟨g,i,none⟩ u) g t (cs.setIfInBounds i u):=by
 unfold Bx at h ⊢
 simp[World.setCell,Array.getElem?_modify,h]
theorem Bx.of_new (hB:Below (w.heap.size+1) (w.alloc (.cells cs t)) w'):Bx w' w.heap.size t cs:=(Bx.new w t cs).up hB (by omega)
theorem Bx.c1 {x:Value} (h:Bx w g t #[x]):w.cell? ⟨g,0,none⟩=some x∧w.frozen? ⟨g,0,none⟩=false∧g<w.heap.size:=⟨h.cell 0,h.frozen 0,h.lt⟩
theorem Bx.c2 {x y:Value} (h:Bx w g t #[x,y]):w.cell? ⟨g,0,none⟩=some x∧w.cell? ⟨g,1,none⟩=some y∧w.frozen? ⟨g,0,none⟩=false∧w.frozen? ⟨g,1,none⟩=false∧g<w.heap.size:=
 ⟨h.cell 0,h.cell 1,h.frozen 0,h.frozen 1,h.lt⟩
theorem Bx.c3 {x y z:Value} (h:Bx w g t #[x,y,z]):w.cell? ⟨g,0,none⟩=some x∧w.cell? ⟨g,1,none⟩=some y∧w.cell? ⟨g,2,none⟩=some z ∧
  w.frozen? ⟨g,0,none⟩=false∧w.frozen? ⟨g,1,none⟩=false∧w.frozen? ⟨g,2,none⟩=false∧g<w.heap.size:=
 ⟨h.cell 0,h.cell 1,h.cell 2,h.frozen 0,h.frozen 1,h.frozen 2,h.lt⟩
theorem Bx.c6 {x0 x1 x2 x3 x4 x5:Value} (h:Bx w g t #[x0,x1,x2,x3,x4,x5]):w.cell? ⟨g,0,none⟩=some x0∧w.cell? ⟨g,1,none⟩=some x1∧w.cell? ⟨g,2,none⟩=some x2 ∧
  w.cell? ⟨g,3,none⟩=some x3∧w.cell? ⟨g,4,none⟩=some x4∧w.cell? ⟨g,5,none⟩=some x5∧(∀ i,w.frozen? ⟨g,i,none⟩=false)∧g<w.heap.size:=
 ⟨h.cell 0,h.cell 1,h.cell 2,h.cell 3,h.cell 4,h.cell 5,h.frozen,h.lt⟩
end
theorem zan {w w1:World} {o:Obj} (hB:Below (w.heap.size+1) (w.alloc o) w1):Below w.heap.size w w1:=((Below.refl _ _).alloc (Nat.le_refl _) _).trans (hB.mono (by omega))
theorem zcl (w:World) (cs:List Value) (t:TypeId):∀ j u,cs[j]? = some u→(w.alloc (.cells cs.toArray t)).cell? ((⟨w.heap.size,0,none⟩:Addr).add j)=some u:=by
 intro j u hu
 have e:(⟨w.heap.size,0,none⟩:Addr).add j=⟨w.heap.size,j,none⟩:=by unfold Addr.add;split <;> simp_all
 rw[e,(Bx.new w t cs.toArray).cell j]
 simpa using hu
theorem zaw {H:Nat} {w wr w1:World} {e:TypeId} {sz n:Nat} {v:Value} {xs:List Value} {o:Obj} (hB:Below H w wr) (hH:H≤wr.heap.size) (hown:wr.ownsRow H e sz v n xs) (hg:(wr.alloc o).grownBy w1 v.ownBlock):Below H w w1:=
 (hB.alloc hH _).grown hg (zcq hH) (fun k hk=>(hown.lt k hk).1)
theorem zcm {H:Nat} {w wr w1:World} {e:TypeId} {sz n:Nat} {v:Value} {xs:List Value} (hB:Below H w wr) (hH:H≤wr.heap.size) (hown:wr.ownsRow H e sz v n xs) (hg:wr.grownBy w1 v.ownBlock):Below H w w1:=
 hB.grown hg hH (fun k hk=>(hown.lt k hk).1)
theorem Bx.grown {w w':World} {g:Nat} {t:TypeId} {cs:Array Value} {row:Option Nat} (h:Bx w g t cs) (hb:w.grownBy w' row) (hg:some g≠row):Bx w' g t cs:=(hb.block g h.lt hg).trans h
theorem zez {w:World} {H g:Nat} {e:TypeId} {sz n:Nat} {v:Value} {xs:List Value} (hown:w.ownsRow H e sz v n xs) (hg:g<H):some g≠v.ownBlock:=fun h=>by
 have:=(hown.lt g h.symm).1;omega
theorem zbb {w:World} {H:Nat} {e:TypeId} {sz n:Nat} {v:Value} {xs:List Value} (hown:w.ownsRow H e sz v n xs):∃ A c,v=.slice A n c:=by
 rcases hown.2 with ⟨rfl,rfl⟩|⟨g,cap,cur,rfl,_⟩
 · exact ⟨none,0,rfl⟩
 · exact ⟨_,_,rfl⟩
theorem zak {w w':World} {H B:Nat} {e:TypeId} {sz n:Nat} {v:Value} {xs:List Value} (h:w.ownsRow H e sz v n xs) (hb:Below B w w') (hB:w.heap.size≤B):w'.ownsRow H e sz v n xs:=by
 refine ⟨h.1,?_⟩
 rcases h.2 with hn|⟨g,cap,cur,hv,hb1,hgg,rest⟩
 · exact .inl hn
 · exact .inr ⟨g,cap,cur,hv,hb1,(hb.block g (by have:=(Array.getElem?_eq_some_iff.1 hgg).1;omega)).trans hgg,rest⟩
theorem zb6 {α:Type} (f:α→List Value) (l:List α) (x:α):(l++[x]).flatMap f=l.flatMap f++f x:=by simp
structure Ch where
 A:Option Addr
 c:Nat
 l:List En
 deriving Inhabited
def Ch.cells (x:Ch):List Value:=[.slice x.A x.l.length x.c]
def RdC (w:World) (B:Nat) (A:Option Addr) (l:List Ch):Prop:=Rd w B A (l.flatMap Ch.cells)
theorem Ch.len (x:Ch):x.cells.length=1:=rfl
theorem RdC.at_ {w:World} {B:Nat} {A:Option Addr} {l:List Ch} (h:RdC w B A l) {k:Nat} (hk:k<l.length) :
  ∃ b off,A=some ⟨b,off,none⟩∧b<B∧w.cell? ⟨b,off+k,none⟩=some (.slice l[k].A l[k].l.length l[k].c):=by
 obtain ⟨b,off,e,hb,hc⟩:=Rd.at_flat Ch.len h (by omega) hk
 have:=hc 0 (by omega)
 simp only[Nat.mul_one,Nat.add_zero] at this
 exact ⟨b,off,e,hb,this⟩
theorem zbf {w:World} {H M:Nat} {e:TypeId} {sz n:Nat} {v:Value} {xs:List Value} (h:w.ownsRow M e sz v n xs) (hH:H≤M):w.ownsRow H e sz v n xs:=by
 refine ⟨h.1,?_⟩
 rcases h.2 with hn|⟨g,cap,cur,hv,hb1,rest⟩
 · exact .inl hn
 · exact .inr ⟨g,cap,cur,hv,by omega,rest⟩
theorem zi8 {w:World} {H H':Nat} {e e':TypeId} {sz sz' n n':Nat} {v v':Value} {xs xs':List Value} (h:w.ownsRow H e sz v n xs) (h':w.ownsRow H' e' sz' v' n' xs') (hne:e≠e'):v.ownBlock=none∨v.ownBlock≠v'.ownBlock:=by
 rcases h.2 with ⟨rfl,_⟩|⟨g,cap,cur,rfl,_,hg,_⟩
 · exact .inl rfl
 · right
   rcases h'.2 with ⟨rfl,_⟩|⟨g',cap',cur',rfl,_,hg',_⟩
   · simp[Value.ownBlock]
   · simp only[Value.ownBlock,ne_eq,Option.some.injEq]
     rintro rfl
     rw[hg] at hg'
     simp only[Option.some.injEq,Obj.cells.injEq] at hg'
     exact hne hg'.2.1
theorem zk9 {α:Type} (f:α→List Value) (hf:∀ x,(f x).length=1) (l:List α) (n:Nat):(l.take n).flatMap f=(l.flatMap f).take n:=by
 induction l generalizing n with
 | nil=>simp
 | cons x l ih =>
  have hx:=hf x
  match hfx:f x,hx with
  | [u],_ =>
   cases n with
   | zero=>simp
   | succ n=>simp[List.flatMap_cons,hfx,ih]
theorem zn8 {α:Type} (f:α→List Value) (hf:∀ x,(f x).length=1) (l:List α) (n:Nat):(l.drop n).flatMap f=(l.flatMap f).drop n:=by
 induction l generalizing n with
 | nil=>simp
 | cons x l ih =>
  have hx:=hf x
  match hfx:f x,hx with
  | [u],_ =>
   cases n with
   | zero=>simp
   | succ n=>simp[List.flatMap_cons,hfx,ih]
def zhc (H:Nat) (err:Int) (out:List En) (e:Ending) (w':World):Prop:=∃ A c,e=.returned (.tuple #[.slice A out.length c,.int .i64 err])∧w'.ownsRow H 89 2 (.slice A out.length c) out.length (out.flatMap En.cells)
theorem zbv {H:Nat} {err r:Int} {out:List En} {w':World} (h1:err=r) (h2:out=[]):zhc H err out (.returned (.tuple #[.slice none 0 0,.int .i64 r])) w':=by
 subst h1 h2
 exact ⟨none,0,rfl,World.ownsRow_nil _ _ _ _⟩
end Go.Proofs.YtpcajamacpbjcaaGreat
namespace Go.Proofs.YtpcajamacpbjcaaGreat
def gk (l:List Bk) (k:Nat):Bk:=l[k]?.getD default
theorem zbt (l:List Bk) (k:Nat) (h:k<l.length):gk l k=l[k]:=by simp[gk,h]
def zEi (b:Bk):Bool:=(b.kind == 1 || b.kind == 2) && ((decide (2≤b.size) && (decide (b.size≤2048) && b.size % 2 == 0)) && (decide (128≤b.at_) && (b.at_ % 2 == 0 && decide (b.at_≤2048 - b.size))))
def zdm (l:List Bk):Nat→Int
 | 0=>128
 | k+1=>(gk l k).at_+(gk l k).size
def zcu (l:List Bk):Nat→Bool
 | 0=>true
 | k+1=>zcu l k && (zEi (gk l k) && (decide (k=0) || (gk l k).at_ == zdm l k))
def zCe (l:List Bk):Bool:=decide (l.length≤1024) && zcu l l.length
def zb4 (l:List Bk):Int:=if zCe l then 0 else 8
theorem ze5 {l:List Bk} {k n:Nat} (h:zcu l n=true) (hk:k≤n):zcu l k=true:=by
 induction n with
 | zero =>
     have:k=0:=by omega
     subst this;exact h
 | succ n ih =>
  rcases Nat.lt_or_ge k (n+1) with h1|h1
  · simp only[zcu,Bool.and_eq_true] at h
    exact ih h.1 (by omega)
  · have:k=n+1:=by omega
    subst this;exact h
theorem zdr {l:List Bk} {k n:Nat} (h:zcu l n=true) (hk:k<n):zEi (gk l k)=true∧(k=0∨(gk l k).at_=zdm l k):=by
 have:=ze5 h (show k+1≤n from hk)
 simp only[zcu,Bool.and_eq_true,Bool.or_eq_true,decide_eq_true_eq,beq_iff_eq] at this
 exact this.2
theorem zs4 {l:List Bk} (h:1024<l.length):zb4 l=8:=by
 have:¬ l.length≤1024:=by omega
 simp[zb4,zCe,this]
theorem zyw {l:List Bk} {k:Nat} (h:zcu l k=false) (hk:k≤l.length):zb4 l=8:=by
 have:zcu l l.length=false:=by
  cases hn:zcu l l.length with
  | false=>rfl
  | true=>rw[ze5 hn hk] at h;cases h
 simp[zb4,zCe,this]
theorem zr1 {l:List Bk} (h:l.length≤1024) (hk:zcu l l.length=true):zb4 l=0:=by
 simp[zb4,zCe,h,hk]
theorem zc5 {l:List Bk} (h:zb4 l=0):l.length≤1024∧zcu l l.length=true:=by
 unfold zb4 zCe at h
 split at h
 · rename_i h1
   simpa using h1
 · simp at h
theorem zx8 (l:List Bk):zb4 l=0∨zb4 l=8:=by unfold zb4;split <;> simp
theorem zd7 (b:Bk):zEi b=true↔(b.kind=1∨b.kind=2)∧2≤b.size∧b.size≤2048∧b.size % 2=0∧128≤b.at_∧b.at_ % 2=0∧b.at_≤2048 - b.size:=by
 simp only[zEi,Bool.and_eq_true,Bool.or_eq_true,beq_iff_eq,decide_eq_true_eq]
 constructor
 · rintro ⟨h1,⟨h2,h3,h4⟩,h5,h6,h7⟩;exact ⟨h1,h2,h3,h4,h5,h6,h7⟩
 · rintro ⟨h1,h2,h3,h4,h5,h6,h7⟩;exact ⟨h1,⟨h2,h3,h4⟩,h5,h6,h7⟩
theorem zzp {l:List Bk} {k:Nat} (h:zEi (gk l k)=false):zcu l (k+1)=false:=by simp[zcu,h]
theorem zxj {l:List Bk} {k:Nat} (h0:k≠0) (h:(gk l k).at_≠zdm l k):zcu l (k+1)=false:=by
 have:((gk l k).at_ == zdm l k)=false:=by rw[beq_eq_false_iff_ne];exact h
 simp[zcu,this,h0]
theorem zoz {l:List Bk} {k:Nat} (hp:zcu l k=true) (h:zEi (gk l k)=true) (hn:k=0∨(gk l k).at_=zdm l k):zcu l (k+1)=true:=by
 rcases hn with h1|h1
 · subst h1;simp[zcu,h]
 · simp[zcu,hp,h,h1]
theorem zo3 {l:List Bk} {k:Nat} (h:zcu l k=true):128≤zdm l k∧zdm l k≤2048:=by
 cases k with
 | zero=>simp[zdm]
 | succ k =>
  obtain ⟨h1,_⟩:=zdr h (Nat.lt_succ_self k)
  have:=(zd7 _).1 h1
  simp only[zdm];omega
def zax (b:Bk):Bool:=b.kind == 1 && b.mark
def zbl:List Bk→Int→List Int
 | [],_=>[]
 | b :: l,s=>if zax b then s :: zbl l (s+b.size) else 0 :: zbl l s
def zat:List Bk→Int→Int
 | [],s=>s
 | b :: l,s=>if zax b then zat l (s+b.size) else zat l s
def zga:List Bk→Int
 | []=>0
 | b :: l=>if zax b then zga l else b.size+zga l
def znt (l:List Bk):Int:=if l.length=0 then 2048 else (gk l 0).at_
def zd4 (l:List Bk) (s:Int):Int:=if zb4 l=0 then (if s<128 then 2 else if znt l<s then 2 else if s % 2=0 then 0 else 2) else 8
theorem zc4 (l:List Bk) (s:Int):(zbl l s).length=l.length:=by
 induction l generalizing s with
 | nil=>rfl
 | cons b l ih=>simp only[zbl];split <;> simp[ih]
theorem zge (a b:List Bk) (s:Int):zat (a++b) s=zat b (zat a s):=by
 induction a generalizing s with
 | nil=>rfl
 | cons x a ih=>simp only[List.cons_append,zat];split <;> exact ih _
theorem zij (a b:List Bk) (s:Int):zbl (a++b) s=zbl a s++zbl b (zat a s):=by
 induction a generalizing s with
 | nil=>rfl
 | cons x a ih=>simp only[List.cons_append,zbl,zat];split <;> simp[ih]
theorem zp3 (a b:List Bk):zga (a++b)=zga a+zga b:=by
 induction a with
 | nil=>simp[zga]
 | cons x a ih=>simp only[List.cons_append,zga];split <;> omega
theorem zgw {l:List Bk} {k:Nat} (h:k<l.length) (s:Int):zat (l.take (k+1)) s=if zax l[k] then zat (l.take k) s+l[k].size else zat (l.take k) s:=by
 rw[List.take_succ_eq_append_getElem h,zge];rfl
theorem zj6 {l:List Bk} {k:Nat} (h:k<l.length) (s:Int):zbl (l.take (k+1)) s=zbl (l.take k) s++[if zax l[k] then zat (l.take k) s else 0]:=by
 rw[List.take_succ_eq_append_getElem h,zij]
 simp only[zbl];split <;> rfl
theorem zs6 {l:List Bk} {k:Nat} (h:k<l.length):zga (l.take (k+1))=if zax l[k] then zga (l.take k) else zga (l.take k)+l[k].size:=by
 rw[List.take_succ_eq_append_getElem h,zp3]
 simp only[zga];split <;> omega
def zn3 (l:List Bk) (k:Nat):Int:=if k=0 then 0 else zdm l k - (gk l 0).at_
theorem zox {l:List Bk} {k:Nat} (h:zcu l k=true) (hk:k≤l.length) (s:Int):0≤zat (l.take k) s - s∧0≤zga (l.take k)∧(zat (l.take k) s - s)+zga (l.take k)=zn3 l k∧zn3 l k≤1920:=by
 induction k with
 | zero=>simp[zat,zga,zn3]
 | succ k ih =>
  have hlt:k<l.length:=by omega
  obtain ⟨i1,i2,i3,i4⟩:=ih (ze5 h (Nat.le_succ k)) (by omega)
  obtain ⟨hb,hc⟩:=zdr h (Nat.lt_succ_self k)
  have hb:=(zd7 _).1 hb
  have hb0:=(zd7 _).1 (zdr h (Nat.succ_pos k)).1
  rw[zgw hlt,zs6 hlt]
  have e:zn3 l (k+1)=zn3 l k+(gk l k).size:=by
   unfold zn3
   rw[if_neg (Nat.succ_ne_zero k),show zdm l (k+1)=(gk l k).at_+(gk l k).size from rfl]
   by_cases h0:k=0
   · subst h0;rw[if_pos rfl];omega
   · rw[if_neg h0]
     rcases hc with hc|hc
     · exact absurd hc h0
     · omega
  have e2:zn3 l (k+1)≤1920:=by
   unfold zn3
   rw[if_neg (Nat.succ_ne_zero k),show zdm l (k+1)=(gk l k).at_+(gk l k).size from rfl]
   omega
  rw[e] at e2 ⊢
  rw[←zbt l k hlt]
  split <;> omega
theorem zCg {l:List Bk} (h:zb4 l=0):znt l≤2048:=by
 unfold znt
 split
 · omega
 · have:=(zd7 _).1 (zdr (zc5 h).2 (show 0<l.length by omega)).1
   omega
theorem zj0 {l:List Bk} {k:Nat} (h:zb4 l=0) (hk:k≤l.length) {s:Int} (hs:128≤s) (hm:s≤znt l):128≤zat (l.take k) s∧zat (l.take k) s≤2048:=by
 obtain ⟨h1,h2⟩:=zc5 h
 have hmb:=zCg h
 obtain ⟨i1,i2,i3,i4⟩:=zox (ze5 h2 hk) hk s
 refine ⟨by omega,?_⟩
 by_cases h0:k=0
 · subst h0;simp[zat];omega
 · have hn:=(zo3 (ze5 h2 hk)).2
   have hl:l.length≠0:=by omega
   simp only[zn3,h0,if_false] at i3
   simp only[znt,hl,if_false] at hm
   omega
theorem zDy {l:List Bk} {k:Nat} {xa xs xk xt nx:Int} {xm:Bool} {xn:Nat} (hx:gk l k=⟨xa,xs,xk,xt,xm,xn⟩) (hn:zdm l k=nx)
   (h:¬ ((xk=1∨xk=2)∧2≤xs∧xs≤2048∧xs % 2=0∧128≤xa∧xa % 2=0∧xa≤2048 - xs∧(k=0∨xa=nx))):zcu l (k+1)=false:=by
 by_cases hb:zEi (gk l k)=true
 · have h1:=(zd7 _).1 hb
   rw[hx] at h1
   dsimp only at h1
   refine zxj (by omega) ?_
   rw[hx,hn]
   dsimp only
   omega
 · exact zzp (by cases hq:zEi (gk l k) <;> simp_all)
theorem ztq {l:List Bk} {k:Nat} {xa xs xk xt nx:Int} {xm:Bool} {xn:Nat} (hx:gk l k=⟨xa,xs,xk,xt,xm,xn⟩) (hn:zdm l k=nx) (hp:zcu l k=true)
   (h:(xk=1∨xk=2)∧2≤xs∧xs≤2048∧xs % 2=0∧128≤xa∧xa % 2=0∧xa≤2048 - xs∧(k=0∨xa=nx)):zcu l (k+1)=true:=by
 refine zoz hp ((zd7 _).2 ?_) ?_
 · rw[hx];dsimp only;omega
 · rw[hx,hn];dsimp only;omega
end Go.Proofs.YtpcajamacpbjcaaGreat
namespace Go.Proofs.YtpcajamacpbjcaaGreat
theorem zLb {l:List Bk} {s:Int} (h:zb4 l≠0):zd4 l s=zb4 l:=by
 rcases zx8 l with h1|h1
 · exact absurd h1 h
 · simp[zd4,h1]
theorem zK0 {l:List Bk} {s:Int} (h:zb4 l=0) (h2:s<128∨znt l<s∨s % 2≠0):zd4 l s=2:=by
 unfold zd4
 rw[if_pos h]
 by_cases a:s<128
 · rw[if_pos a]
 · rw[if_neg a]
   by_cases b:znt l<s
   · rw[if_pos b]
   · rw[if_neg b,if_neg (by omega)]
theorem zBh {l:List Bk} {s:Int} (h:zb4 l=0) (h2:128≤s∧s≤znt l∧s % 2=0):zd4 l s=0:=by
 unfold zd4
 rw[if_pos h,if_neg (by omega),if_neg (by omega),if_pos h2.2.2]
theorem zei {l:List Bk} {s:Int} (h:zd4 l s=0):zb4 l=0∧128≤s∧s≤znt l∧s % 2=0:=by
 unfold zd4 at h
 split at h
 · split at h
   · simp at h
   · split at h
     · simp at h
     · split at h
       · exact ⟨by assumption,by omega,by omega,by assumption⟩
       · simp at h
 · simp at h
end Go.Proofs.YtpcajamacpbjcaaGreat
namespace Go.Proofs.YtpcajamacpbjcaaGreat
theorem ztp {l:List Bk} (h:zb4 l=0) {s:Int} (hm:s≤znt l) {k:Nat} (hk:k<l.length):zat (l.take k) s≤(gk l k).at_:=by
 obtain ⟨h1,h2⟩:=zc5 h
 obtain ⟨i1,i2,i3,i4⟩:=zox (ze5 h2 (Nat.le_of_lt hk)) (Nat.le_of_lt hk) s
 have hl:l.length≠0:=by omega
 simp only[znt,hl,if_false] at hm
 by_cases h0:k=0
 · subst h0;simp[zat];exact hm
 · simp only[zn3,h0,if_false] at i3
   rcases (zdr h2 hk).2 with h3|h3
   · exact absurd h3 h0
   · omega
theorem zs9 {l:List Bk} {s:Int} {k:Nat} (hk:k<l.length):(zbl l s)[k]? = some (if zax (gk l k) then zat (l.take k) s else 0):=by
 have h1:=zj6 hk s
 have h2:zbl l s=zbl (l.take (k+1)) s++zbl (l.drop (k+1)) (zat (l.take (k+1)) s):=by rw[←zij,List.take_append_drop]
 have h3:(zbl (l.take k) s).length=k:=by rw[zc4,List.length_take];omega
 rw[h2,h1,List.append_assoc,List.getElem?_append_right (by omega),h3,zbt l k hk]
 simp
end Go.Proofs.YtpcajamacpbjcaaGreat
namespace Go.Proofs.YtpcajamacpbjcaaGreat
def zHy (s b:Nat):Nat:=((s ^^^ b) * 1099511628211) % 18446744073709551616
def zhq (w i:Nat):Nat:=w / 256 ^ i % 256
def zC2 (s w:Nat):Nat→Nat
 | 0=>s
 | k+1=>zHy (zC2 s w k) (zhq w k)
def fnvW (s w:Nat):Nat:=zC2 s w 8
def zbh (s:Nat):List Nat→Nat
 | []=>s
 | w :: l=>zbh (fnvW s w) l
def zgi (w:Nat):Nat:=fnvW 14695981039346656037 w
theorem zrn (w i:Nat):zhq w i<256:=Nat.mod_lt _ (by omega)
theorem zJ8 (s b:Nat):zHy s b<18446744073709551616:=Nat.mod_lt _ (by omega)
theorem ztb {s:Nat} (hs:s<18446744073709551616) (w k:Nat):zC2 s w k<18446744073709551616:=by
 cases k with
 | zero=>exact hs
 | succ k=>exact zJ8 _ _
theorem zJ5 {s:Nat} (hs:s<18446744073709551616) (w:Nat):fnvW s w<18446744073709551616:=ztb hs w 8
theorem zin {s:Nat} (hs:s<18446744073709551616) (l:List Nat):zbh s l<18446744073709551616:=by
 induction l generalizing s with
 | nil=>exact hs
 | cons w l ih=>exact ih (zJ5 hs w)
theorem zn7 (s:Nat) (a b:List Nat):zbh s (a++b)=zbh (zbh s a) b:=by
 induction a generalizing s with
 | nil=>rfl
 | cons w a ih=>exact ih _
theorem zlj {l:List Nat} {k:Nat} (h:k<l.length) (s:Nat):zbh s (l.take (k+1))=fnvW (zbh s (l.take k)) l[k]:=by
 rw[List.take_succ_eq_append_getElem h,zn7];rfl
theorem zJ4 (s b:Nat) (hb:b<256):s - s % 256+((s % 256) ^^^ b)=s ^^^ b:=by
 have h1:(s % 256) ^^^ b<2 ^ 8:=Nat.xor_lt_two_pow (Nat.mod_lt _ (by omega)) hb
 have h2:s - s % 256=2 ^ 8 * (s / 256):=by have:=Nat.div_add_mod s 256;omega
 apply Nat.eq_of_testBit_eq
 intro j
 rw[h2,Nat.testBit_two_pow_mul_add _ h1,Nat.testBit_xor]
 split
 · rename_i hj
   rw[Nat.testBit_xor,show (256:Nat)=2 ^ 8 from rfl,Nat.testBit_mod_two_pow]
   simp[hj]
 · rename_i hj
   have hb2:b.testBit j=false:=Nat.testBit_lt_two_pow (Nat.lt_of_lt_of_le hb (by
    have:2 ^ 8≤2 ^ j:=Nat.pow_le_pow_right (by omega) (by omega)
    simpa using this))
   rw[Nat.testBit_xor,hb2,Bool.xor_false,show (256:Nat)=2 ^ 8 from rfl,←Nat.shiftRight_eq_div_pow,Nat.testBit_shiftRight]
   congr 1;omega
def zhs (b:Bk):Bool:=(decide (2≤b.size) && b.size % 2 == 0) && ((b.kind == 1 && (decide (0≤b.typ) && (decide (b.typ<8) && decide (b.size≤10)))) || (b.kind == 2 && (b.typ == 0 && (!b.mark && decide (b.size≤1920)))))
theorem zbo (b:Bk):zhs b=true↔(2≤b.size∧b.size % 2=0)∧(b.kind=1∧0≤b.typ∧b.typ<8∧b.size≤10∨b.kind=2∧b.typ=0∧b.mark=false∧b.size≤1920):=by
 simp only[zhs,Bool.and_eq_true,Bool.or_eq_true,beq_iff_eq,decide_eq_true_eq,Bool.not_eq_true']
def znu (m:Bool):Nat:=if m then 1 else 0
def zkl (b:Bk):Nat:=b.kind.toNat+znu b.mark * 256+b.typ.toNat * 512+b.size.toNat * 65536
def zcg (b:Bk):Nat:=zkl b+zgi (zkl b) % 4294967296 * 4294967296
def zaf (w:Nat):Bk:=⟨0,(w / 65536 % 65536:Nat),(w % 256:Nat),(w / 512 % 128:Nat),w / 256 % 2 == 1,0⟩
def zar (w:Nat):Bool:=zhs (zaf w) && zcg (zaf w) == w
theorem zzt (m:Bool):znu m≤1:=by cases m <;> simp[znu]
theorem zud {b:Bk} (h:zhs b=true):b.kind.toNat<256∧b.typ.toNat<128∧b.size.toNat<65536∧0≤b.kind∧0≤b.typ∧0≤b.size∧b.size≤1920:=by
 have:=(zbo b).1 h
 omega
theorem zvh {b:Bk} (h:zhs b=true):zkl b<4294967296:=by
 obtain ⟨h1,h2,h3,-⟩:=zud h
 have:=zzt b.mark
 unfold zkl;omega
theorem zqj {b:Bk} (h:zhs b=true):zcg b<18446744073709551616:=by
 have h1:=zvh h
 have h2:zgi (zkl b) % 4294967296<4294967296:=Nat.mod_lt _ (by omega)
 unfold zcg;omega
theorem ziu {b:Bk} (h:zhs b=true):zaf (zcg b)=⟨0,b.size,b.kind,b.typ,b.mark,0⟩:=by
 obtain ⟨h1,h2,h3,h4,h5,h6,h7⟩:=zud h
 have hm:=zzt b.mark
 unfold zaf zcg
 generalize zgi (zkl b) % 4294967296=t
 have hl:zkl b=b.kind.toNat+znu b.mark * 256+b.typ.toNat * 512+b.size.toNat * 65536:=rfl
 generalize zkl b=q at *
 generalize hmm:znu b.mark=m at *
 have e1:(q+t * 4294967296) / 65536 % 65536=b.size.toNat:=by omega
 have e2:(q+t * 4294967296) % 256=b.kind.toNat:=by omega
 have e3:(q+t * 4294967296) / 512 % 128=b.typ.toNat:=by omega
 have e4:(q+t * 4294967296) / 256 % 2=m:=by omega
 rw[e1,e2,e3,e4]
 congr 1
 · omega
 · omega
 · omega
 · rw[←hmm];cases b.mark <;> simp[znu]
theorem zy5 {a b:Bk} (h1:a.size=b.size) (h2:a.kind=b.kind) (h3:a.typ=b.typ) (h4:a.mark=b.mark):zcg a=zcg b∧zhs a=zhs b:=by
 unfold zcg zkl zhs
 rw[h1,h2,h3,h4]
 exact ⟨rfl,rfl⟩
theorem ziq {b:Bk} (h:zhs b=true):zar (zcg b)=true:=by
 unfold zar
 rw[ziu h]
 have:=zy5 (a:=⟨0,b.size,b.kind,b.typ,b.mark,0⟩) (b:=b) rfl rfl rfl rfl
 rw[this.1,this.2,h];simp
def wd (ws:List Nat) (i:Nat):Nat:=ws[i]?.getD 0
def bkAt (ws:List Nat) (i:Nat):Bk:={ zaf (wd ws i) with at_:=(i:Nat),next:=wd ws (i+1) }
def stands (ws:List Nat) (i:Nat):Bool:=zar (wd ws i) && decide ((zaf (wd ws i)).size≤(ws.length:Int) - i)
def szAt (ws:List Nat) (i:Nat):Nat:=wd ws i / 65536 % 65536
def znf (ws:List Nat):Nat→Nat→Option (List Bk)
 | 0,i=>if ws.length≤i then some [] else none
 | f+1,i=>if ws.length≤i then some [] else if stands ws i then (znf ws f (i+szAt ws i)).map (bkAt ws i :: ·) else none
def blocks (ws:List Nat) (i:Nat):Option (List Bk):=znf ws ws.length i
theorem zav {ws:List Nat} {i:Nat} (h:stands ws i=true):2≤szAt ws i∧szAt ws i % 2=0∧i+szAt ws i≤ws.length:=by
 unfold stands zar at h
 simp only[Bool.and_eq_true,decide_eq_true_eq] at h
 obtain ⟨⟨h1,_⟩,h2⟩:=h
 have h3:=(zbo _).1 h1
 simp only[zaf] at h2 h3
 unfold szAt
 omega
theorem zn9 {ws:List Nat} {f i:Nat} (h:ws.length - i≤f):∀ {g:Nat},ws.length - i≤g→znf ws f i=znf ws g i:=by
 induction f generalizing i with
 | zero =>
  intro g _
  cases g with
  | zero=>rfl
  | succ g=>simp only[znf];rw[if_pos (by omega),if_pos (by omega)]
 | succ f ih =>
  intro g hg
  cases g with
  | zero=>simp only[znf];rw[if_pos (by omega),if_pos (by omega)]
  | succ g =>
   simp only[znf]
   split
   · rfl
   · split
     · rename_i hs
       have:=zav hs
       rw[ih (i:=i+szAt ws i) (by omega) (g:=g) (by omega)]
     · rfl
theorem zaq {ws:List Nat} {i:Nat} (h:ws.length≤i):blocks ws i=some []:=by
 unfold blocks
 cases hn:ws.length with
 | zero=>simp[znf,hn]
 | succ n=>rw[znf,if_pos (by omega)]
theorem zaz {ws:List Nat} {i:Nat} (h:i<ws.length) (hs:stands ws i=true):blocks ws i=(blocks ws (i+szAt ws i)).map (bkAt ws i :: ·):=by
 have hsz:=zav hs
 unfold blocks
 rw[zn9 (f:=ws.length) (i:=i) (by omega) (g:=ws.length+1) (by omega),znf,if_neg (by omega),if_pos hs]
theorem zc0 {ws:List Nat} {i:Nat} (h:i<ws.length) (hs:stands ws i=false):blocks ws i=none:=by
 unfold blocks
 rw[zn9 (f:=ws.length) (i:=i) (by omega) (g:=ws.length+1) (by omega),znf,if_neg (by omega),if_neg (by rw[hs];exact Bool.false_ne_true)]
end Go.Proofs.YtpcajamacpbjcaaGreat
namespace Go.Proofs.YtpcajamacpbjcaaGreat
def zc9 (a:Nat):List Nat:=(List.range (a % 256)).map fun i=>a / 4 ^ (i+4) % 4
def zl4:List Nat→Nat→Nat
 | [],_=>0
 | k :: l,j=>k * 4 ^ j+zl4 l (j+1)
def zgu (l:List Nat):Nat:=l.length+zl4 l 4
def zdk (l:List Nat):Bool:=l.all fun k=>decide (1≤k) && decide (k≤3)
def zcv (l:List Nat):Int:=if 8<l.length then 4 else if zdk l=true then 0 else 8
def za8 (n:Nat):Nat:=2+(n+1) / 2 * 2
def zb7 (a b:Nat):Bool:=(decide (a % 256≤8) && zdk (zc9 a)) && (zgu (zc9 a) == a && zgi a == b)
theorem zet (a:Nat):(zc9 a).length=a % 256:=by simp[zc9]
theorem zpq (a i:Nat) (h:i<a % 256):(zc9 a)[i]? = some (a / 4 ^ (i+4) % 4):=by simp[zc9,h]
theorem zm4 (a b:List Nat) (j:Nat):zl4 (a++b) j=zl4 a j+zl4 b (j+a.length):=by
 induction a generalizing j with
 | nil=>simp[zl4]
 | cons k a ih=>simp only[List.cons_append,zl4,ih,List.length_cons];rw[show j+1+a.length=j+(a.length+1) by omega];omega
theorem zt5 (l:List Nat) (j:Nat) (h:∀ k ∈ l,k≤3):zl4 l j+4 ^ j≤4 ^ (j+l.length):=by
 induction l generalizing j with
 | nil=>simp[zl4]
 | cons k l ih =>
  have h1:=ih (j+1) (fun k hk=>h k (by simp[hk]))
  have h2:=h k (by simp)
  simp only[zl4,List.length_cons]
  rw[show j+(l.length+1)=j+1+l.length by omega]
  have h3:k * 4 ^ j≤3 * 4 ^ j:=Nat.mul_le_mul_right _ h2
  rw[Nat.pow_succ] at h1
  omega
theorem zco (l:List Nat):zdk l=true↔∀ k ∈ l,1≤k∧k≤3:=by simp[zdk]
theorem zC4 {l:List Nat} {k:Nat} (hk:k<l.length) (h:l[k]<1∨3<l[k]):zdk l=false:=by
 cases hq:zdk l with
 | false=>rfl
 | true=>have:=(zco l).1 hq l[k] (List.getElem_mem hk);omega
theorem zs7 {l:List Nat} (h:8<l.length):zcv l=4:=by simp[zcv,h]
theorem zkr {l:List Nat} (h:l.length≤8) (hk:zdk l=false):zcv l=8:=by
 have:¬ 8<l.length:=by omega
 simp[zcv,this,hk]
theorem zh8 {l:List Nat} (h:l.length≤8) (hk:zdk l=true):zcv l=0:=by
 have:¬ 8<l.length:=by omega
 simp[zcv,this,hk]
theorem zja {l:List Nat} (h:zcv l=0):l.length≤8∧zdk l=true:=by
 unfold zcv at h
 split at h
 · simp at h
 · split at h
   · exact ⟨by omega,by assumption⟩
   · simp at h
theorem zBj {l:List Nat} (h:l.length≤8) (hk:zdk l=true):zgu l<16777216:=by
 have h1:=zt5 l 4 (fun k hk'=>((zco l).1 hk k hk').2)
 have h2:4 ^ (4+l.length)≤4 ^ 12:=Nat.pow_le_pow_right (by omega) (by omega)
 have h3:(4:Nat) ^ 12=16777216:=by decide
 have h4:(4:Nat) ^ 4=256:=by decide
 unfold zgu;omega
end Go.Proofs.YtpcajamacpbjcaaGreat
namespace Go.Proofs.YtpcajamacpbjcaaGreat
def tyA (b:Bk):Nat:=96+2 * b.typ.toNat
def zc2 (ws:List Nat) (b:Bk):Bool:=zb7 (wd ws (tyA b)) (wd ws (tyA b+1)) && b.size == ((za8 (wd ws (tyA b) % 256):Nat):Int)
def zds (ws:List Nat) (b:Bk):Bool:=b.kind != 1 || zc2 ws b
def zbz (ws:List Nat):List Bk→Int→Bool
 | [],_=>true
 | b :: l,s=>zds ws b && (if zax b then ((b.next:Int) == s) && zbz ws l (s+b.size) else zbz ws l s)
def zal:List Bk→Int→List (Int × Int)
 | [],_=>[]
 | b :: l,s=>if zax b then (b.at_,s) :: zal l (s+b.size) else zal l s
theorem zll (ws:List Nat) (a b:List Bk) (s:Int):zbz ws (a++b) s=(zbz ws a s && zbz ws b (zat a s)):=by
 induction a generalizing s with
 | nil=>simp[zbz,zat]
 | cons x a ih =>
  simp only[List.cons_append,zbz,zat]
  split
  · rw[ih];simp only[Bool.and_assoc]
  · rw[ih];simp only[Bool.and_assoc]
theorem zfb (a b:List Bk) (s:Int):zal (a++b) s=zal a s++zal b (zat a s):=by
 induction a generalizing s with
 | nil=>rfl
 | cons x a ih=>simp only[List.cons_append,zal,zat];split <;> simp[ih]
theorem zol {ws:List Nat} {l:List Bk} {k:Nat} (h:k<l.length) (s:Int):zbz ws (l.take (k+1)) s=(zbz ws (l.take k) s && (zds ws l[k] && (!zax l[k] || (l[k].next:Int) == zat (l.take k) s))):=by
 rw[List.take_succ_eq_append_getElem h,zll]
 simp only[zbz]
 cases zax l[k] <;> simp
theorem zwx {l:List Bk} {k:Nat} (h:k<l.length) (s:Int):zal (l.take (k+1)) s=zal (l.take k) s++(if zax l[k] then [(l[k].at_,zat (l.take k) s)] else []):=by
 rw[List.take_succ_eq_append_getElem h,zfb]
 simp only[zal]
theorem zog {ws:List Nat} {l:List Bk} {s:Int} (h:zbz ws l s=true) (k:Nat):zbz ws (l.take k) s=true:=by
 rw[←List.take_append_drop k l,zll,Bool.and_eq_true] at h
 exact h.1
theorem zso {ws:List Nat} {l:List Bk} {s:Int} {k:Nat} (h:zbz ws (l.take k) s=false):zbz ws l s=false:=by
 cases hq:zbz ws l s with
 | false=>rfl
 | true=>rw[zog hq k] at h;cases h
theorem zGy {ws:List Nat} {l:List Bk} {s:Int} (h:zbz ws l s=true) {k:Nat} (hk:k<l.length):zds ws l[k]=true∧(zax l[k]=true→(l[k].next:Int)=zat (l.take k) s):=by
 have h1:=zog h (k+1)
 rw[zol hk] at h1
 simp only[Bool.and_eq_true,Bool.or_eq_true,Bool.not_eq_true',beq_iff_eq] at h1
 exact ⟨h1.2.1,fun hl=>by
  rcases h1.2.2 with h2|h2
  · rw[hl] at h2;cases h2
  · exact h2⟩
theorem zdb {ws:List Nat} (P:Nat→List Bk→Prop) (h0:∀ i,ws.length≤i→P i []) (h1:∀ i l,i<ws.length→stands ws i=true→blocks ws (i+szAt ws i)=some l→P (i+szAt ws i) l→P i (bkAt ws i :: l)) :
  ∀ i l,blocks ws i=some l→P i l:=by
 have key:∀ n i l,ws.length - i≤n→blocks ws i=some l→P i l:=by
  intro n
  induction n with
  | zero =>
   intro i l hn h
   rw[zaq (by omega)] at h
   cases h
   exact h0 i (by omega)
  | succ n ih =>
   intro i l hn h
   by_cases hi:ws.length≤i
   · rw[zaq hi] at h;cases h;exact h0 i hi
   · cases hs:stands ws i with
     | false=>rw[zc0 (by omega) hs] at h;cases h
     | true =>
      have hsz:=zav hs
      rw[zaz (by omega) hs] at h
      cases hb:blocks ws (i+szAt ws i) with
      | none=>rw[hb] at h;cases h
      | some l' =>
       rw[hb] at h
       simp only[Option.map_some,Option.some.injEq] at h
       subst h
       exact h1 i l' (by omega) hs hb (ih _ _ (by omega) hb)
 exact fun i l h=>key _ i l (Nat.le_refl _) h
theorem zaa (ws:List Nat) (i:Nat):(bkAt ws i).at_=(i:Int):=rfl
theorem zba (ws:List Nat) (i:Nat):(bkAt ws i).size=((szAt ws i:Nat):Int):=rfl
theorem ze4 {ws:List Nat} {i:Nat} (h:stands ws i=true):zhs (zaf (wd ws i))=true:=by
 unfold stands zar at h
 simp only[Bool.and_eq_true] at h
 exact h.1.1
theorem zhk (b:Bk) (l:List Bk) (k:Nat):gk (b :: l) (k+1)=gk l k:=by simp[gk]
theorem zmn (b:Bk) (l:List Bk):gk (b :: l) 0=b:=rfl
theorem zDc {ws:List Nat} {i:Nat} (hn:ws.length≤2048) (h:stands ws i=true) (h1:128≤i) (h2:i % 2=0):zEi (bkAt ws i)=true:=by
 have h3:=(zbo _).1 (ze4 h)
 have h4:=zav h
 rw[zd7]
 have e1:(bkAt ws i).kind=(zaf (wd ws i)).kind:=rfl
 have e2:(zaf (wd ws i)).size=((szAt ws i:Nat):Int):=rfl
 rw[zaa,zba,e1]
 omega
theorem zbs {ws:List Nat} (hn:ws.length≤2048):∀ i l,blocks ws i=some l→128≤i→i % 2=0→i≤ws.length →
  2 * l.length+i≤ws.length∧∀ k,k<l.length→zEi (gk l k)=true∧(k=0→(gk l k).at_=(i:Int))∧(0<k→(gk l k).at_=(gk l (k - 1)).at_+(gk l (k - 1)).size):=by
 refine zdb _ (fun i _ _ _ _=>⟨by simp;omega,fun k hk=>by simp at hk⟩) (fun i l hi hs hb ih h1 h2 _ => ?_)
 have hsz:=zav hs
 obtain ⟨h3,h4⟩:=ih (by omega) (by omega) hsz.2.2
 refine ⟨by rw[List.length_cons];omega,fun k hk => ?_⟩
 cases k with
 | zero=>exact ⟨zDc hn hs h1 h2,fun _=>rfl,fun h=>absurd h (by omega)⟩
 | succ k =>
  rw[List.length_cons] at hk
  obtain ⟨g1,g2,g3⟩:=h4 k (by omega)
  rw[zhk]
  refine ⟨g1,fun h=>absurd h (by omega),fun _ => ?_⟩
  rw[Nat.add_sub_cancel]
  cases k with
  | zero=>rw[zmn,g2 rfl,zaa,zba];omega
  | succ k=>rw[zhk];exact g3 (by omega)
theorem zoy {ws:List Nat} (hn:ws.length≤2048) {i:Nat} {l:List Bk} (h:blocks ws i=some l) (h1:128≤i) (h2:i % 2=0) (h3:i≤ws.length):zb4 l=0:=by
 obtain ⟨h4,h5⟩:=zbs hn i l h h1 h2 h3
 refine zr1 (by omega) ?_
 have key:∀ k,k≤l.length→zcu l k=true:=by
  intro k
  induction k with
  | zero=>intro _;rfl
  | succ k ih =>
   intro hk
   obtain ⟨g1,g2,g3⟩:=h5 k (by omega)
   refine zoz (ih (by omega)) g1 ?_
   rcases Nat.eq_zero_or_pos k with h0|h0
   · exact .inl h0
   · right
     obtain ⟨m,rfl⟩:∃ m,k=m+1:=⟨k - 1,by omega⟩
     exact g3 h0
 exact key _ (Nat.le_refl _)
theorem zcc {ws:List Nat} {i:Nat} {l:List Bk} (h:blocks ws i=some l) (hi:i<ws.length):0<l.length∧gk l 0=bkAt ws i∧stands ws i=true∧blocks ws (i+szAt ws i)=some (l.drop 1):=by
 cases hs:stands ws i with
 | false=>rw[zc0 hi hs] at h;cases h
 | true =>
  rw[zaz hi hs] at h
  cases hb:blocks ws (i+szAt ws i) with
  | none=>rw[hb] at h;cases h
  | some l' =>
   rw[hb] at h
   simp only[Option.map_some,Option.some.injEq] at h
   subst h
   exact ⟨by simp,rfl,rfl,by simp⟩
theorem zjo {ws:List Nat} (hn:ws.length≤2048) {i:Nat} {l:List Bk} (h:blocks ws i=some l) (h1:128≤i) (h2:i % 2=0) (h3:i≤ws.length) {s:Int} (hs:128≤s) (hs2:s % 2=0) (hs3:s≤(i:Int)):zd4 l s=0:=by
 refine zBh (zoy hn h h1 h2 h3) ⟨hs,?_,hs2⟩
 unfold znt
 split
 · omega
 · rename_i hl
   have:=(zbs hn i l h h1 h2 h3).2 0 (by omega)
   rw[this.2.1 rfl];exact hs3
end Go.Proofs.YtpcajamacpbjcaaGreat
namespace Go.Proofs.YtpcajamacpbjcaaGreat
theorem zik:∀ {l:List Bk} {s:Int} {p:Nat},p<(zal l s).length→∃ k,∃ h:k<l.length,zax l[k]=true∧(zal l s)[p]? = some (l[k].at_,zat (l.take k) s)∧(zal (l.take k) s).length=p:=by
 intro l
 induction l with
 | nil=>intro s p h;simp[zal] at h
 | cons b l ih =>
  intro s p h
  cases hb:zax b with
  | true =>
   simp only[zal,hb,if_true] at h ⊢
   cases p with
   | zero=>exact ⟨0,by simp,hb,by simp[zat],rfl⟩
   | succ p =>
     obtain ⟨k,hk,h1,h2,h3⟩:=ih (s:=s+b.size) (p:=p) (by simpa using h)
     refine ⟨k+1,by simpa using hk,h1,?_,?_⟩
     · simp only[List.getElem?_cons_succ,h2,List.getElem_cons_succ,List.take_succ_cons,zat,hb,if_true]
     · simp only[List.take_succ_cons,zal,hb,if_true,List.length_cons,h3]
  | false =>
   simp only[zal,hb,Bool.false_eq_true,if_false] at h ⊢
   obtain ⟨k,hk,h1,h2,h3⟩:=ih (s:=s) (p:=p) h
   refine ⟨k+1,by simpa using hk,h1,?_,?_⟩
   · simp only[h2,List.getElem_cons_succ,List.take_succ_cons,zat,hb,Bool.false_eq_true,if_false]
   · simp only[List.take_succ_cons,zal,hb,Bool.false_eq_true,if_false,h3]
theorem zlr (ws:List Nat) (j v i:Nat):wd (ws.set j v) i=if j=i∧j<ws.length then v else wd ws i:=by
 unfold wd
 by_cases h:j=i
 · subst h
   by_cases h2:j<ws.length
   · simp[h2]
   · simp[h2]
 · simp[h]
theorem zgq (ws:List Nat) {j i:Nat} (v:Nat) (h:j≠i):wd (ws.set j v) i=wd ws i:=by rw[zlr,if_neg (fun h2=>h h2.1)]
def zm2 (j v:Nat) (b:Bk):Bk:=if b.at_+1=(j:Int) then { b with next:=v } else b
theorem zlc {ws:List Nat} {j i:Nat} (v:Nat) (h:j≠i):stands (ws.set j v) i=stands ws i∧szAt (ws.set j v) i=szAt ws i:=by
 unfold stands szAt
 rw[zgq ws v h,List.length_set]
 exact ⟨rfl,rfl⟩
theorem zv8 {ws:List Nat} {j i v:Nat} (h:j≠i) (hj:j<ws.length):bkAt (ws.set j v) i=zm2 j v (bkAt ws i):=by
 unfold bkAt zm2
 rw[zgq ws v h,zlr]
 by_cases e:j=i+1
 · rw[if_pos ⟨e,hj⟩,if_pos (by dsimp only;omega)]
 · rw[if_neg (fun h2=>e h2.1),if_neg (by dsimp only;omega)]
theorem zy4 {ws:List Nat} {j v:Nat} (hj:j % 2=1) (hl:j<ws.length):∀ i,i % 2=0→blocks (ws.set j v) i=(blocks ws i).map (List.map (zm2 j v)):=by
 have key:∀ n i,ws.length - i≤n→i % 2=0→blocks (ws.set j v) i=(blocks ws i).map (List.map (zm2 j v)):=by
  intro n
  induction n with
  | zero=>intro i hn _;rw[zaq (by rw[List.length_set];omega),zaq (by omega)];rfl
  | succ n ih =>
   intro i hn h2
   by_cases hi:ws.length≤i
   · rw[zaq (by rw[List.length_set];omega),zaq (by omega)];rfl
   · obtain ⟨e1,e2⟩:=zlc (ws:=ws) (j:=j) (i:=i) v (by omega)
     cases hs:stands ws i with
     | false=>rw[zc0 (by rw[List.length_set];omega) (by rw[e1,hs]),zc0 (by omega) hs];rfl
     | true =>
      have hsz:=zav hs
      rw[zaz (by rw[List.length_set];omega) (by rw[e1,hs]),zaz (by omega) hs,e2,ih _ (by omega) (by omega),zv8 (by omega) hl]
      cases blocks ws (i+szAt ws i) <;> rfl
 exact fun i=>key _ i (Nat.le_refl _)
theorem zkt {l:List Bk} (h:zb4 l=0) {m k:Nat} (hk:k<l.length) (hm:m<k):(gk l m).at_<(gk l k).at_:=by
 obtain ⟨_,h2⟩:=zc5 h
 induction k with
 | zero=>omega
 | succ k ih =>
  have h3:=zdr h2 (show k+1<l.length from hk)
  have h4:=(zd7 _).1 (zdr h2 (show k<l.length by omega)).1
  have e:(gk l (k+1)).at_=(gk l k).at_+(gk l k).size:=by
    rcases h3.2 with h0|h0
    · omega
    · exact h0
  rcases Nat.lt_or_ge m k with h5|h5
  · have:=ih (by omega) h5;omega
  · have:m=k:=by omega
    subst this;omega
theorem zyz {l:List Bk} (h:zb4 l=0) {k j v:Nat} (hk:k<l.length) (hj:l[k].at_+1=(j:Int)):l.map (zm2 j v)=l.set k { l[k] with next:=v }:=by
 apply List.ext_getElem (by simp)
 intro i h1 h2
 have h1:i<l.length:=by simpa using h1
 rw[List.getElem_map,List.getElem_set]
 unfold zm2
 by_cases e:k=i
 · subst e;rw[if_pos hj,if_pos rfl]
 · rw[if_neg e]
   rw[if_neg ?_]
   intro h3
   have e2:(gk l i).at_=(gk l k).at_:=by rw[zbt l i h1,zbt l k hk];omega
   rcases Nat.lt_or_gt_of_ne e with h4|h4
   · have:=zkt h h1 h4;omega
   · have:=zkt h hk h4;omega
theorem zwv {ws ws':List Nat} {l:List Bk} (hf:∀ b ∈ l,zds ws' b=zds ws b) (hf2:∀ b v,b ∈ l→zds ws' { b with next:=v }=zds ws b):∀ {s:Int},zbz ws l s=true→∀ {k:Nat} (hk:k<l.length),zax l[k]=true→∀ v:Nat,
  zbz ws' (l.set k { l[k] with next:=v }) s=((v:Int) == zat (l.take k) s)∧zal (l.set k { l[k] with next:=v }) s=zal l s:=by
 induction l with
 | nil=>intro s _ k hk;simp at hk
 | cons b l ih =>
  intro s h k hk hl v
  have hfb:=hf b (by simp)
  have hfb2:=hf2 b v (by simp)
  have all':∀ (l:List Bk),(∀ b ∈ l,zds ws' b=zds ws b)→∀ s,zbz ws' l s=zbz ws l s:=by
   intro l hl
   induction l with
   | nil=>intro s;rfl
   | cons c l ih2 =>
    intro s
    simp only[zbz]
    rw[hl c (by simp),ih2 (fun b hb=>hl b (by simp[hb])),ih2 (fun b hb=>hl b (by simp[hb]))]
  cases k with
  | zero =>
   have hl:zax b=true:=hl
   have hl2:zax { b with next:=v }=true:=hl
   simp only[zbz,hl,if_true,Bool.and_eq_true] at h
   simp only[List.set_cons_zero,List.getElem_cons_zero,zbz,hl2,if_true,zal,hl,List.take_zero,zat,hfb2,h.1,Bool.true_and]
   rw[all' l (fun b hb=>hf b (by simp[hb])),h.2.2,Bool.and_true]
   exact ⟨rfl,trivial⟩
  | succ k =>
   have hk:k<l.length:=by simpa using hk
   have hl:zax l[k]=true:=hl
   cases hb:zax b with
   | true =>
    simp only[zbz,hb,if_true,Bool.and_eq_true] at h
    obtain ⟨g1,g2⟩:=ih (fun b hb=>hf b (by simp[hb])) (fun b v hb=>hf2 b v (by simp[hb])) h.2.2 hk hl v
    simp only[List.set_cons_succ,List.getElem_cons_succ,zbz,hb,if_true,zal,List.take_succ_cons,zat,hfb,h.1,h.2.1,Bool.true_and,g1,g2]
    exact ⟨trivial,trivial⟩
   | false =>
    simp only[zbz,hb,Bool.false_eq_true,if_false,Bool.and_eq_true] at h
    obtain ⟨g1,g2⟩:=ih (fun b hb=>hf b (by simp[hb])) (fun b v hb=>hf2 b v (by simp[hb])) h.2 hk hl v
    simp only[List.set_cons_succ,List.getElem_cons_succ,zbz,hb,Bool.false_eq_true,if_false,zal,List.take_succ_cons,zat,hfb,h.1,Bool.true_and,g1,g2]
    exact ⟨trivial,trivial⟩
end Go.Proofs.YtpcajamacpbjcaaGreat
namespace Go.Proofs.YtpcajamacpbjcaaGreat
def zgy (n:Nat) (f s:Int):Bool:=(f % 2 != 0) || ((s % 2 != 0) || (decide (s<128) || (decide (f<s) || decide ((n:Int)<f))))
def zt4 (n:Nat):Bool:=decide (256≤n) && (decide (n≤2048) && n % 8 == 0)
theorem zgb {n:Nat} {f s:Int} (h:zgy n f s=false):f % 2=0∧s % 2=0∧128≤s∧s≤f∧f≤(n:Int):=by
 simp only[zgy,Bool.or_eq_false_iff,bne_eq_false_iff_eq,decide_eq_false_iff_not] at h
 omega
theorem zju (n:Nat) (f s:Int):zgy n f s=true↔¬ (f % 2=0∧s % 2=0∧128≤s∧s≤f∧f≤(n:Int)):=by
 constructor
 · intro h h2
   have:zgy n f s=false:=by
    simp only[zgy,Bool.or_eq_false_iff,bne_eq_false_iff_eq,decide_eq_false_iff_not]
    omega
   rw[this] at h;cases h
 · intro h
   cases hq:zgy n f s with
   | true=>rfl
   | false=>exact absurd (zgb hq) h
def zk2 (ws:List Nat) (f s:Int):Int:=match blocks ws f.toNat with
 | none=>50
 | some l=>if zbz ws l s=true then 0 else 50
def zbi (ws:List Nat) (f s:Int):Int:=if zt4 ws.length=true then (if zgy ws.length f s=true then 2 else zk2 ws f s) else 8
def zhn (ws:List Nat) (f s:Int):List (Int × Int):=if zbi ws f s=0 then (match blocks ws f.toNat with | none=>[] | some l=>zal l s) else []
theorem zb8 {ws:List Nat} {f s:Int} (h:zbi ws f s=0):zt4 ws.length=true∧zgy ws.length f s=false∧∃ l,blocks ws f.toNat=some l∧zbz ws l s=true∧zhn ws f s=zal l s:=by
 have h0:=h
 unfold zbi at h
 split at h
 · rename_i h1
   split at h
   · simp at h
   · rename_i h2
     unfold zk2 at h
     cases hb:blocks ws f.toNat with
     | none=>rw[hb] at h;simp at h
     | some l =>
      rw[hb] at h
      refine ⟨h1,by simpa using h2,l,rfl,?_,?_⟩
      · dsimp only at h
        split at h
        · assumption
        · simp at h
      · unfold zhn;rw[if_pos h0,hb]
 · simp at h
theorem zg6 {ws:List Nat} {f s:Int} (h1:zt4 ws.length=true) (h2:zgy ws.length f s=false) {l:List Bk} (h3:blocks ws f.toNat=some l):zbi ws f s=if zbz ws l s=true then 0 else 50:=by
 unfold zbi zk2;rw[if_pos h1,h2,h3];rfl
theorem zl3 {n:Nat} (h:zt4 n=true):256≤n∧n≤2048∧n % 8=0:=by simp[zt4] at h;omega
theorem zb5 {ws:List Nat}:∀ i l,blocks ws i=some l→i % 2=0→∀ k (h:k<l.length),∃ a,l[k]=bkAt ws a∧a % 2=0∧i≤a∧a<ws.length∧stands ws a=true∧blocks ws a=some (l.drop k):=by
 refine zdb _ (fun i _ _ k h=>by simp at h) (fun i l hi hs hb ih h2 k h => ?_)
 have hsz:=zav hs
 cases k with
 | zero=>exact ⟨i,rfl,h2,Nat.le_refl _,hi,hs,by rw[zaz hi hs,hb];rfl⟩
 | succ k =>
  obtain ⟨a,h3,h4,h5,h6,h7,h8⟩:=ih (by omega) k (by simpa using h)
  exact ⟨a,h3,h4,by omega,h6,h7,h8⟩
theorem zHq {b:Bk} {w:Nat} (h:zhs (zaf w)=true) (hk:b.kind=(zaf w).kind) (ht:b.typ=(zaf w).typ) (h1:b.kind=1):tyA b+1<128:=by
 have:=(zbo _).1 h
 rw[←hk,←ht] at this
 unfold tyA;omega
theorem zEk {ws:List Nat} {j v:Nat} (hj:128≤j) {a:Nat} (hs:stands ws a=true) (u:Nat):zds (ws.set j v) { bkAt ws a with next:=u }=zds ws (bkAt ws a):=by
 have h1:=ze4 hs
 unfold zds
 show ((bkAt ws a).kind != 1 || zc2 (ws.set j v) { bkAt ws a with next:=u })=_
 by_cases hk:(bkAt ws a).kind=1
 · have h2:=zHq (b:=bkAt ws a) h1 rfl rfl hk
   have e1:wd (ws.set j v) (tyA (bkAt ws a))=wd ws (tyA (bkAt ws a)):=zgq ws v (by omega)
   have e2:wd (ws.set j v) (tyA (bkAt ws a)+1)=wd ws (tyA (bkAt ws a)+1):=zgq ws v (by omega)
   unfold zc2
   show (_ || (zb7 (wd (ws.set j v) (tyA (bkAt ws a))) (wd (ws.set j v) (tyA (bkAt ws a)+1)) && (bkAt ws a).size == ((za8 (wd (ws.set j v) (tyA (bkAt ws a)) % 256):Nat):Int)))=_
   rw[e1,e2]
 · have:((bkAt ws a).kind != 1)=true:=by rw[bne_iff_ne];exact hk
   rw[this,Bool.true_or,Bool.true_or]
theorem zw2 {ws:List Nat} {f s:Int} (h:zbi ws f s=0) {p:Nat} (hp:p<(zhn ws f s).length):∃ a t:Nat,(zhn ws f s)[p]? = some ((a:Int),(t:Int))∧128≤a∧a+1<ws.length∧wd ws (a+1)=t∧t≤2048 ∧
   ∀ v,(v=t→zbi (ws.set (a+1) v) f s=0)∧(v≠t→zbi (ws.set (a+1) v) f s=50):=by
 obtain ⟨h1,h2,l,h3,h4,h5⟩:=zb8 h
 obtain ⟨a1,a2,a3,a4,a5⟩:=zgb h2
 have hb:=zl3 h1
 rw[h5] at hp ⊢
 obtain ⟨k,hk,hl,hg,-⟩:=zik hp
 obtain ⟨a,e,b1,b2,b3,b4,-⟩:=zb5 _ _ h3 (by omega) k hk
 have hst:=zjo (i:=f.toNat) hb.2.1 h3 (by omega) (by omega) (by omega) (s:=s) a3 a2 (by omega)
 obtain ⟨hre,hs1,hs2,hs3⟩:=zei hst
 have hbd:=zj0 hre (Nat.le_of_lt hk) hs1 hs2
 have hnx:=(zGy h4 hk).2 hl
 have hsz:=zav b4
 have hlen:a+1<ws.length:=by omega
 have hnext:wd ws (a+1)=l[k].next:=by rw[e];rfl
 have hat:l[k].at_=(a:Int):=by rw[e];rfl
 refine ⟨a,l[k].next,by rw[hg,hat,hnx],by omega,hlen,hnext,by omega,fun v => ?_⟩
 have hbs:=zy4 (ws:=ws) (j:=a+1) (v:=v) (by omega) hlen f.toNat (by omega)
 rw[h3,Option.map_some,zyz hre hk (by rw[hat];omega)] at hbs
 have hfit:∀ b ∈ l,∀ u,zds (ws.set (a+1) v) { b with next:=u }=zds ws b:=by
   intro b hb u
   obtain ⟨m,hm,rfl⟩:=List.getElem_of_mem hb
   obtain ⟨a',e',-,-,-,b4',-⟩:=zb5 _ _ h3 (by omega) m hm
   rw[e']
   exact zEk (by omega) b4' u
 obtain ⟨g1,-⟩:=zwv (ws:=ws) (ws':=ws.set (a+1) v) (fun b hb=>by have:=hfit b hb b.next;exact this) (fun b u hb=>hfit b hb u) h4 hk hl v
 rw[zg6 (by rw[List.length_set];exact h1) (by rw[List.length_set];exact h2) hbs,g1,←hnx]
 constructor
 · intro hv;subst hv;simp
 · intro hv
   have:((v:Int) == (l[k].next:Int))=false:=by rw[beq_eq_false_iff_ne];omega
   rw[this];simp
end Go.Proofs.YtpcajamacpbjcaaGreat
namespace Go.Proofs.YtpcajamacpbjcaaGreat
def zel:List Nat→Nat→List Nat→List Nat
 | ws,_,[]=>ws
 | ws,t,v :: l=>zel (ws.set t v) (t+1) l
theorem zkz (l:List Nat):∀ (ws:List Nat) (t:Nat),(zel ws t l).length=ws.length:=by
 induction l with
 | nil=>intro ws t;rfl
 | cons v l ih=>intro ws t;simp only[zel,ih,List.length_set]
theorem zq0 (l:List Nat):∀ (ws:List Nat) (t i:Nat),t+l.length≤ws.length→wd (zel ws t l) i=if t≤i∧i<t+l.length then l[i - t]?.getD 0 else wd ws i:=by
 induction l with
 | nil=>intro ws t i _;simp only[zel,List.length_nil];rw[if_neg (by omega)]
 | cons v l ih =>
  intro ws t i hn
  rw[List.length_cons] at hn
  simp only[zel,List.length_cons]
  rw[ih (ws.set t v) (t+1) i (by rw[List.length_set];omega),zlr]
  by_cases h1:t=i
  · subst h1
    rw[if_neg (by omega),if_pos ⟨rfl,by omega⟩,if_pos (by omega)]
    simp
  · by_cases h2:t+1≤i∧i<t+1+l.length
    · rw[if_pos h2,if_pos (by omega)]
      obtain ⟨m,rfl⟩:∃ m,i=t+1+m:=⟨i - (t+1),by omega⟩
      rw[show t+1+m - (t+1)=m by omega,show t+1+m - t=m+1 by omega]
      simp
    · rw[if_neg h2,if_neg (fun h=>h1 h.1),if_neg (by omega)]
theorem zek {ws xs:List Nat} (hn:xs.length=ws.length):∀ i,(∀ j,i≤j→wd xs j=wd ws j)→blocks xs i=blocks ws i:=by
 have key:∀ n i,ws.length - i≤n→(∀ j,i≤j→wd xs j=wd ws j)→blocks xs i=blocks ws i:=by
  intro n
  induction n with
  | zero=>intro i h _;rw[zaq (by omega),zaq (by omega)]
  | succ n ih =>
   intro i h hw
   by_cases hi:ws.length≤i
   · rw[zaq (by omega),zaq (by omega)]
   · have e1:stands xs i=stands ws i:=by unfold stands;rw[hw i (Nat.le_refl _),hn]
     have e2:szAt xs i=szAt ws i:=by unfold szAt;rw[hw i (Nat.le_refl _)]
     have e3:bkAt xs i=bkAt ws i:=by unfold bkAt;rw[hw i (Nat.le_refl _),hw (i+1) (by omega)]
     cases hs:stands ws i with
     | false=>rw[zc0 (by omega) (by rw[e1,hs]),zc0 (by omega) hs]
     | true =>
      have hsz:=zav hs
      rw[zaz (by omega) (by rw[e1,hs]),zaz (by omega) hs,e2,e3,ih _ (by omega) (fun j hj=>hw j (by omega))]
 exact fun i=>key _ i (Nat.le_refl _)
theorem zsy {ws xs:List Nat} (hw:∀ j,j<128→wd xs j=wd ws j):∀ {l:List Bk},(∀ b ∈ l,b.kind=1→tyA b+1<128)→∀ s,zbz xs l s=zbz ws l s:=by
 intro l
 induction l with
 | nil=>intro _ s;rfl
 | cons b l ih =>
  intro h s
  have e:zds xs b=zds ws b:=by
   unfold zds
   by_cases hk:b.kind=1
   · have h2:=h b (by simp) hk
     unfold zc2
     rw[hw _ (by omega),hw _ (by omega)]
   · have:(b.kind != 1)=true:=by rw[bne_iff_ne];exact hk
     rw[this,Bool.true_or,Bool.true_or]
  simp only[zbz,e]
  rw[ih (fun b hb=>h b (by simp[hb])),ih (fun b hb=>h b (by simp[hb]))]
theorem zgo {ws:List Nat} {i:Nat} {l:List Bk} (h:blocks ws i=some l) (h2:i % 2=0):∀ b ∈ l,b.kind=1→tyA b+1<128:=by
 intro b hb hk
 obtain ⟨m,hm,rfl⟩:=List.getElem_of_mem hb
 obtain ⟨a,e,-,-,-,b4,-⟩:=zb5 _ _ h h2 m hm
 rw[e] at hk ⊢
 exact zHq (ze4 b4) rfl rfl hk
def zex (ws:List Nat) (f t:Int):Int:=if zbi ws f t=0 then (match blocks ws f.toNat with | some (b :: _)=>if b.mark then 0 else 6 | _=>6) else zbi ws f t
def zdl (ws:List Nat) (f:Nat):List Nat:=(List.range (szAt ws f)).map fun i=>if i=0 then zcg { zaf (wd ws f) with mark:=false } else if i=1 then 0 else wd ws (f+i)
theorem zxw {ws:List Nat} {f t:Int} (h:zex ws f t=0):zbi ws f t=0∧∃ a:Nat,f=(a:Int)∧a % 2=0∧128≤a∧a<ws.length∧stands ws a=true∧zax (bkAt ws a)=true∧∃ l,blocks ws a=some (bkAt ws a :: l)∧blocks ws (a+szAt ws a)=some l:=by
 unfold zex at h
 split at h
 · rename_i h0
   refine ⟨h0,?_⟩
   obtain ⟨h1,h2,l,h3,h4,h5⟩:=zb8 h0
   obtain ⟨a1,a2,a3,a4,a5⟩:=zgb h2
   rw[h3] at h
   cases l with
   | nil=>simp at h
   | cons b l =>
    dsimp only at h
    split at h
    · rename_i hm
      refine ⟨f.toNat,by omega,by omega,by omega,?_,?_⟩
      · rcases Nat.lt_or_ge f.toNat ws.length with h6|h6
        · exact h6
        · rw[zaq h6] at h3;simp at h3
      · have hlt:f.toNat<ws.length:=by
          rcases Nat.lt_or_ge f.toNat ws.length with h6|h6
          · exact h6
          · rw[zaq h6] at h3;simp at h3
        obtain ⟨_,e2,e3,e4⟩:=zcc h3 hlt
        have e2:b=bkAt ws f.toNat:=e2
        subst e2
        refine ⟨e3,?_,l,h3,by simpa using e4⟩
        have h7:=(zbo _).1 (ze4 e3)
        have hm2:(zaf (wd ws f.toNat)).mark=true:=hm
        have hk:(bkAt ws f.toNat).kind=1:=by
          rcases h7.2 with h8|h8
          · exact h8.1
          · rw[hm2] at h8;exact absurd h8.2.2.1 (by simp)
        simp[zax,hk];exact hm
    · simp at h
 · rename_i h0
   exact absurd h h0
theorem zfu (ws:List Nat) (f:Nat):(zdl ws f).length=szAt ws f:=by simp[zdl]
theorem ziz (ws:List Nat) (f i:Nat) (h:i<szAt ws f):(zdl ws f)[i]? = some (if i=0 then zcg { zaf (wd ws f) with mark:=false } else if i=1 then 0 else wd ws (f+i)):=by simp[zdl,h]
theorem zr8 {w:Nat} (h:zhs (zaf w)=true) (hk:(zaf w).kind=1):zhs { zaf w with mark:=false }=true:=by
 have:=(zbo _).1 h
 rw[zbo]
 show _∧((zaf w).kind=1∧_∨_)
 rcases this.2 with h1|h1
 · exact ⟨this.1,.inl h1⟩
 · rw[hk] at h1;exact absurd h1.1 (by omega)
theorem zfy {ws:List Nat} {f t:Int} (h:zex ws f t=0):∃ a u n:Nat,f=(a:Int)∧t=(u:Int)∧n=szAt ws a∧2≤n∧n≤10∧128≤u∧u≤a∧a+n≤ws.length∧stands ws a=true∧zax (bkAt ws a)=true ∧
   (∃ l,blocks ws a=some (bkAt ws a :: l)∧blocks ws (a+n)=some l∧blocks (zel ws u (zdl ws a)) (a+n)=some l∧zbi (zel ws u (zdl ws a)) ((a+n:Nat):Int) ((u+n:Nat):Int)=0 ∧
     zhn ws f t=((a:Int),(u:Int)) :: zhn (zel ws u (zdl ws a)) ((a+n:Nat):Int) ((u+n:Nat):Int)) ∧
   wd (zel ws u (zdl ws a)) u=zcg { zaf (wd ws a) with mark:=false }∧zhs { zaf (wd ws a) with mark:=false }=true:=by
 obtain ⟨h0,a,rfl,c1,c2,c3,c4,c5,l,c6,c7⟩:=zxw h
 obtain ⟨h1,h2,l',h3,h4,h5⟩:=zb8 h0
 obtain ⟨a1,a2,a3,a4,a5⟩:=zgb h2
 have hb:=zl3 h1
 rw[Int.toNat_natCast,c6] at h3
 cases h3
 obtain ⟨u,rfl⟩:=Int.eq_ofNat_of_zero_le (show 0≤t by omega)
 have hsz:=zav c4
 have hk:(bkAt ws a).kind=1:=by simp[zax] at c5;exact c5.1
 have hhd:=(zbo _).1 (ze4 c4)
 have hn10:szAt ws a≤10:=by
   have e1:(zaf (wd ws a)).size=((szAt ws a:Nat):Int):=rfl
   have hk2:(zaf (wd ws a)).kind=1:=hk
   rcases hhd.2 with h8|h8
   · omega
   · rw[hk2] at h8;exact absurd h8.1 (by omega)
 have hun:=zr8 (ze4 c4) hk
 have hlen:=zfu ws a
 have hwd:∀ i,wd (zel ws u (zdl ws a)) i=if u≤i∧i<u+szAt ws a then (zdl ws a)[i - u]?.getD 0 else wd ws i:=by
   intro i
   rw[zq0 _ _ _ _ (by rw[hlen];omega),hlen]
 have hagree:∀ j,a+szAt ws a≤j→wd (zel ws u (zdl ws a)) j=wd ws j:=fun j hj=>by rw[hwd,if_neg (by omega)]
 have hbx:blocks (zel ws u (zdl ws a)) (a+szAt ws a)=some l:=by rw[zek (zkz _ _ _) _ hagree,c7]
 have hty:∀ j,j<128→wd (zel ws u (zdl ws a)) j=wd ws j:=fun j hj=>by rw[hwd,if_neg (by omega)]
 have h6:zbz ws l ((u:Int)+(szAt ws a:Nat))=true:=by
   simp only[zbz,c5,if_true,Bool.and_eq_true] at h4
   exact h4.2.2
 have h7:zbz (zel ws u (zdl ws a)) l ((u+szAt ws a:Nat):Int)=true:=by
   rw[zsy hty (fun b hb=>zgo c6 c1 b (by simp[hb]))]
   simpa using h6
 have hrd:zbi (zel ws u (zdl ws a)) ((a+szAt ws a:Nat):Int) ((u+szAt ws a:Nat):Int)=0:=by
   rw[zg6 (by rw[zkz];exact h1) ?_ (by rw[Int.toNat_natCast];exact hbx),if_pos h7]
   rw[zkz]
   cases hq:zgy ws.length ((a+szAt ws a:Nat):Int) ((u+szAt ws a:Nat):Int) with
   | false=>rfl
   | true=>exact absurd (by omega) ((zju _ _ _).1 hq)
 refine ⟨a,u,szAt ws a,rfl,rfl,rfl,hsz.1,hn10,by omega,by omega,hsz.2.2,c4,c5,⟨l,c6,c7,hbx,hrd,?_⟩,?_,hun⟩
 · rw[h5]
   have e:zhn (zel ws u (zdl ws a)) ((a+szAt ws a:Nat):Int) ((u+szAt ws a:Nat):Int)=zal l ((u+szAt ws a:Nat):Int):=by
     unfold zhn;rw[if_pos hrd,Int.toNat_natCast,hbx]
   rw[e]
   simp only[zal,c5,if_true,zaa,zba]
   simp
 · rw[hwd,if_pos (by omega),Nat.sub_self,ziz _ _ _ (by omega),Option.getD_some,if_pos rfl]
end Go.Proofs.YtpcajamacpbjcaaGreat
namespace Go.Proofs.YtpcajamacpbjcaaGreat
def zbp (b:Bk) (s:Int):Nat:=if zax b then s.toNat else 0
def zeo (b:Bk) (s:Int):Int:=if zax b then s+b.size else s
def za2:List Bk→Int→List En
 | [],_=>[]
 | b :: l,s=>(if b.kind=1∧b.next≠zbp b s then [⟨b.at_+1,zbp b s⟩] else [])++za2 l (zeo b s)
def fwB:List Bk→Int→List Bk
 | [],_=>[]
 | b :: l,s=>(if b.kind=1 then { b with next:=zbp b s } else b) :: fwB l (zeo b s)
def zag:List Nat→List En→List Nat
 | ws,[]=>ws
 | ws,e :: l=>zag (if 0≤e.a∧e.a<(ws.length:Int) then ws.set e.a.toNat e.v else ws) l
theorem zau (l:List En):∀ ws:List Nat,(zag ws l).length=ws.length:=by
 induction l with
 | nil=>intro ws;rfl
 | cons e l ih=>intro ws;simp only[zag,ih];split <;> simp
theorem zea (a b:List En):∀ ws:List Nat,zag ws (a++b)=zag (zag ws a) b:=by
 induction a with
 | nil=>intro ws;rfl
 | cons e a ih=>intro ws;simp only[List.cons_append,zag,ih]
theorem za9 (l:List En):∀ (ws:List Nat) (i:Nat),(∀ e ∈ l,e.a≠(i:Int))→wd (zag ws l) i=wd ws i:=by
 induction l with
 | nil=>intro ws i _;rfl
 | cons e l ih =>
  intro ws i h
  simp only[zag]
  rw[ih _ i (fun x hx=>h x (by simp[hx]))]
  split
  · rename_i hb
    exact zgq ws _ (by have:=h e (by simp);omega)
  · rfl
theorem zrm (a b:List Bk):∀ s,za2 (a++b) s=za2 a s++za2 b (zat a s):=by
 induction a with
 | nil=>intro s;rfl
 | cons x a ih =>
  intro s
  simp only[List.cons_append,za2,ih,zat,zeo,List.append_assoc]
  cases zax x <;> simp
theorem zp7 {ws:List Nat}:∀ i l,blocks ws i=some l→∀ s,∀ e ∈ za2 l s,(i:Int)+1≤e.a∧e.a<(ws.length:Int):=by
 refine zdb _ (fun i _ s e h=>by simp[za2] at h) (fun i l hi hs hb ih s e h => ?_)
 have hsz:=zav hs
 simp only[za2,List.mem_append] at h
 rcases h with h|h
 · split at h
   · simp only[List.mem_cons,List.not_mem_nil,or_false] at h
     subst h
     show (i:Int)+1≤(bkAt ws i).at_+1∧(bkAt ws i).at_+1<_
     rw[zaa];omega
   · simp at h
 · have:=ih _ e h
   omega
theorem zp4 {ws:List Nat} {i v:Nat} (h:i+1<ws.length):bkAt (ws.set (i+1) v) i={ bkAt ws i with next:=v }:=by
 rw[zv8 (by omega) h]
 unfold zm2
 rw[if_pos (by rw[zaa];omega)]
theorem zty {b:Bk} {v:Nat} (h:b.next=v):{ b with next:=v }=b:=by subst h;rfl
theorem ztk:∀ n (ws:List Nat) (i:Nat) (l:List Bk),ws.length - i≤n→blocks ws i=some l→∀ s,blocks (zag ws (za2 l s)) i=some (fwB l s)∧∀ j,j≤i→wd (zag ws (za2 l s)) j=wd ws j:=by
 intro n
 induction n with
 | zero =>
  intro ws i l hn h s
  rw[zaq (by omega)] at h
  cases h
  exact ⟨by simp only[za2,zag,fwB];exact zaq (by omega),fun j _=>rfl⟩
 | succ n ih =>
  intro ws i l hn h s
  by_cases hi:ws.length≤i
  · rw[zaq hi] at h
    cases h
    exact ⟨by simp only[za2,zag,fwB];exact zaq hi,fun j _=>rfl⟩
  · have hi:i<ws.length:=by omega
    cases hs:stands ws i with
    | false=>rw[zc0 hi hs] at h;cases h
    | true =>
     have hsz:=zav hs
     rw[zaz hi hs] at h
     cases hb:blocks ws (i+szAt ws i) with
     | none=>rw[hb] at h;cases h
     | some l' =>
      rw[hb] at h
      simp only[Option.map_some,Option.some.injEq] at h
      subst h
      obtain ⟨w1,hw1,hlen,hbk,hst,hsz1,hag⟩:∃ w1,zag ws (za2 (bkAt ws i :: l') s)=zag w1 (za2 l' (zeo (bkAt ws i) s))∧w1.length=ws.length∧bkAt w1 i=(if (bkAt ws i).kind=1 then { bkAt ws i with next:=zbp (bkAt ws i) s } else bkAt ws i)∧stands w1 i=stands ws i∧szAt w1 i=szAt ws i∧∀ j,j≠i+1→wd w1 j=wd ws j:=by
       by_cases hc:(bkAt ws i).kind=1∧(bkAt ws i).next≠zbp (bkAt ws i) s
       · refine ⟨ws.set (i+1) (zbp (bkAt ws i) s),?_,by simp,?_,(zlc _ (by omega)).1,(zlc _ (by omega)).2,fun j hj=>zgq ws _ (by omega)⟩
         · simp only[za2]
           rw[if_pos hc,zea]
           simp only[zag]
           rw[if_pos (by rw[zaa];omega),zaa,show ((i:Int)+1).toNat=i+1 by omega]
         · rw[zp4 (by omega),if_pos hc.1]
       · refine ⟨ws,?_,rfl,?_,rfl,rfl,fun j _=>rfl⟩
         · simp only[za2]
           rw[if_neg hc,List.nil_append]
         · split
           · rename_i hk
             have:(bkAt ws i).next=zbp (bkAt ws i) s:=by
              rcases Nat.decEq (bkAt ws i).next (zbp (bkAt ws i) s) with h1|h1
              · exact absurd ⟨hk,h1⟩ hc
              · exact h1
             exact (zty this).symm
           · rfl
      have hb1:blocks w1 (i+szAt ws i)=some l':=by rw[zek hlen _ (fun j hj=>hag j (by omega)),hb]
      obtain ⟨g1,g2⟩:=ih w1 (i+szAt ws i) l' (by omega) hb1 (zeo (bkAt ws i) s)
      rw[hw1]
      obtain ⟨E,hE⟩:∃ E,za2 l' (zeo (bkAt ws i) s)=E:=⟨_,rfl⟩
      rw[hE] at g1 g2 ⊢
      have e0:wd (zag w1 E) i=wd w1 i:=g2 i (by omega)
      have e1:wd (zag w1 E) (i+1)=wd w1 (i+1):=g2 (i+1) (by omega)
      have f1:stands (zag w1 E) i=stands w1 i:=by unfold stands;rw[e0,zau]
      have f2:szAt (zag w1 E) i=szAt w1 i:=by unfold szAt;rw[e0]
      have f3:bkAt (zag w1 E) i=bkAt w1 i:=by unfold bkAt;rw[e0,e1]
      refine ⟨?_,fun j hj=>by rw[g2 j (by omega)];exact hag j (by omega)⟩
      rw[zaz (by rw[zau,hlen];exact hi) (by rw[f1,hst,hs]),f2,f3,hsz1,g1,hbk]
      rfl
theorem zF2 {l:List Bk}:∀ {s:Int},zat (fwB l s) s=zat l s∧zal (fwB l s) s=zal l s∧(fwB l s).map (fun b=>(b.at_,b.size,b.kind,b.mark))=l.map (fun b=>(b.at_,b.size,b.kind,b.mark)):=by
 induction l with
 | nil=>intro s;exact ⟨rfl,rfl,rfl⟩
 | cons b l ih =>
  intro s
  have hl:zax (if b.kind=1 then { b with next:=zbp b s } else b)=zax b:=by split <;> rfl
  have h1:(if b.kind=1 then { b with next:=zbp b s } else b).size=b.size:=by split <;> rfl
  have h2:(if b.kind=1 then { b with next:=zbp b s } else b).at_=b.at_:=by split <;> rfl
  have h3:(if b.kind=1 then { b with next:=zbp b s } else b).kind=b.kind:=by split <;> rfl
  have h4:(if b.kind=1 then { b with next:=zbp b s } else b).mark=b.mark:=by split <;> rfl
  simp only[fwB,zat,zal,List.map_cons,hl,h1,h2,h3,h4]
  unfold zeo
  split
  · obtain ⟨a1,a2,a3⟩:=ih (s:=s+b.size)
    rw[a1,a2,a3];exact ⟨rfl,rfl,rfl⟩
  · obtain ⟨a1,a2,a3⟩:=ih (s:=s)
    rw[a1,a2,a3];exact ⟨rfl,rfl,rfl⟩
end Go.Proofs.YtpcajamacpbjcaaGreat
