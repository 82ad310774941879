/- Arguments opened: a slice that came in, as data, reads as a list of elements (entries, blocks, words). -/
import Derived.Test.YtpcajamacpbjcaaGreatZKPlain
import Derived.ProofKit
import Derived.OpenShut
import Derived.Deep.Slices
import Derived.Deep.Fields
namespace Go.Proofs.YtpcajamacpbjcaaGreat
open Go.ChangeShapes Go.WideShapes Go.RowKit Go.Deep
theorem Tryz.own:ownKnob Tryz.prog.godebug=none:=by kernel_rfl
theorem Tryz.laidOut:laidOutB Tryz.prog=true:=by kernel_rfl
theorem Rd.of_flat {α:Type} {f:α→List Value} {sz:Nat} {w:World} {B b off:Nat} {l:List α} (hf:∀ x,(f x).length=sz) (hsz:0<sz) (hb:0<l.length→b<B)
  (h:∀ k (hk:k<l.length) j,j<sz→w.cell? ⟨b,off+k * sz+j,none⟩=(f l[k])[j]?):Rd w B (some ⟨b,off,none⟩) (l.flatMap f):=by
 intro hn
 have hl:=zcw f sz hf l
 have hpos:0<l.length:=by
  rcases Nat.eq_zero_or_pos l.length with h0|h0
  · rw[List.eq_nil_of_length_eq_zero h0] at hn;simp at hn
  · exact h0
 refine ⟨b,off,rfl,hb hpos,fun j hj => ?_⟩
 rw[hl] at hj
 have hk:j / sz<l.length:=(Nat.div_lt_iff_lt_mul hsz).2 hj
 have hm:j % sz<sz:=Nat.mod_lt _ hsz
 have e:j=j / sz * sz+j % sz:=by rw[Nat.mul_comm];exact (Nat.div_add_mod j sz).symm
 have h1:=h _ hk _ hm
 have h2:=zhf f sz hf l (j / sz) (j % sz) hk hm
 rw[←h2,Nat.add_assoc,←e] at h1
 rw[h1]
 exact List.getElem?_eq_getElem (by rw[hl];exact hj)
section
variable {H:Type} {enc:TypeId × Value→H} {P:Program} {w:World} {base:Nat} {spare:Nat→Bool} {held:Bool}
theorem zCd {α:Type} [Inhabited α] (cells:α→List Value) (ok:α→Prop) (sz:Nat) {t e:TypeId} {fuel len cap:Nat} {A:Option Addr} {x:DataW H × List MemPlace}
   (hf:∀ x,(cells x).length=sz) (hsz:0<sz) (ht:P.underlying t=some (.slice e)) (hC:P.cellsOf e=sz)
   (hdec:∀ n cs y,DataW.trod enc P w base spare held n e cs=some y→∃ x:α,cs=cells x∧ok x)
   (h:DataW.trod enc P w base spare held fuel t [.slice A len cap]=some x) :
   ∃ l:List α,l.length=len∧len≤maxLen∧len≤cap∧Rd w w.heap.size A (l.flatMap cells)∧∀ x ∈ l,ok x:=by
 rcases open_slice ht h with ⟨h0,_⟩|⟨a,len',cap',m,n,D,Pl,hcs,_,hl,hm,hmm,_,hx⟩
 · simp only[List.cons.injEq,Value.slice.injEq,and_true] at h0
   obtain ⟨rfl,rfl,rfl⟩:=h0
   exact ⟨[],rfl,Nat.zero_le _,Nat.zero_le _,Rd.nil_,fun _ h=>by simp at h⟩
 · simp only[List.cons.injEq,Value.slice.injEq,and_true] at hcs
   obtain ⟨rfl,rfl,rfl⟩:=hcs
   have hlm:len≤m:=by rw[hmm];split <;> omega
   have each:∀ i,i<len→∃ y:α,ok y∧∀ j,j<sz→w.cell? ((a.add (i * sz)).add j)=(cells y)[j]?:=by
     intro i hi
     obtain ⟨cs',h1,h2⟩:=hx i (by omega)
     rw[hC] at h1
     obtain ⟨_,hlen,hcell⟩:=World.cells?_some h1
     obtain ⟨y,rfl,hy⟩:=hdec _ _ _ h2
     exact ⟨y,hy,fun j hj=>hcell j hj⟩
   obtain ⟨g,hg⟩:=choose_lt each
   refine ⟨(List.range len).map g,by simp,by omega,hl,?_,fun y hy => ?_⟩
   · rcases Nat.eq_zero_or_pos len with h0|h0
     · subst h0;exact Rd.nil_
     · obtain ⟨b,off,spot⟩:=a
       have hc:=(hg 0 h0).2 0 hsz
       have hs:spot=none:=by
         have hlt:0<(cells (g 0)).length:=by rw[hf];exact hsz
         rw[List.getElem?_eq_getElem hlt] at hc
         simpa [Addr.add] using World.cell?_spot hc
       subst hs
       have hadd:∀ i j,((⟨b,off,none⟩:Addr).add i).add j=⟨b,off+i+j,none⟩:=fun i j=>by
         unfold Addr.add
         by_cases h1:i=0 <;> by_cases h2:j=0 <;> simp[h1,h2]
       refine Rd.of_flat hf hsz (fun _ => ?_) (fun k hk j hj => ?_)
       · have hlt:0<(cells (g 0)).length:=by rw[hf];exact hsz
         rw[List.getElem?_eq_getElem hlt,hadd] at hc
         exact World.block_lt_of_cell? w _ hc
       · have hk':k<len:=by simpa using hk
         have:=(hg k hk').2 j hj
         rw[hadd] at this
         rw[this]
         simp
   · obtain ⟨i,hi,rfl⟩:=List.mem_map.1 hy
     exact (hg i (List.mem_range.1 hi)).1
end
theorem zs8 {n:Int} (h:(Lit.int .u64 n).wf=true):0≤n∧n<18446744073709551616:=by
 simp[Lit.wf,IntKind.min,IntKind.max,IntKind.signed,IntKind.bits] at h;omega
section
variable {H:Type} {enc:TypeId × Value→H} {w:World} {base:Nat} {spare:Nat→Bool} {held:Bool}
theorem zF9 {n:Nat} {cs:List Value} {y:DataW H × List MemPlace} (h:DataW.trod enc Tryz.prog w base spare held n 53 cs=some y) :
  ∃ x:Nat,cs=zaj x∧x<18446744073709551616:=by
 obtain ⟨x,hc,_,hw⟩:=DataW.trod_int Tryz.underlying53 h
 obtain ⟨h0,h1⟩:=zs8 hw
 refine ⟨x.toNat,?_,by omega⟩
 rw[hc,zaj,Int.toNat_of_nonneg h0]
theorem zxd {fuel len cap:Nat} {A:Option Addr} {x:DataW H × List MemPlace} (h:DataW.trod enc Tryz.prog w base spare held fuel 22 [.slice A len cap]=some x) :
  ∃ l:List Nat,l.length=len∧len≤maxLen∧len≤cap∧RdW w w.heap.size A l∧∀ x ∈ l,x<18446744073709551616:=
 zCd zaj (fun x=>x<18446744073709551616) 1 zbe (by omega) Tryz.underlying22 (by kernel_rfl) (fun _ _ _ h=>zF9 h) h
end
end Go.Proofs.YtpcajamacpbjcaaGreat
