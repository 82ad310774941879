/- Texts laid together: FixP Fix Fix2 Fix3 Fix4 FxSP FxOP. -/
import Derived.Test.YtpcajamacpbjcaaGreatZKRch
import Derived.Test.YtpcajamacpbjcaaGreatZKMove
import Derived.Test.YtpcajamacpbjcaaGreatZKHeap
namespace Go.Proofs.YtpcajamacpbjcaaGreat
open Lib (hid)
def zc1 (ws:List Nat):Int:=if zae ws=0 then zbi ws 128 128 else zae ws
def zeu (ws:List Nat):List (Int × Int):=if zc1 ws=0 then zhn ws 128 128 else []
theorem zd1 {ws:List Nat} (h:zc1 ws=0):zae ws=0∧zbi ws 128 128=0∧zeu ws=zhn ws 128 128:=by
 have h1:zae ws=0∧zbi ws 128 128=0:=by
  unfold zc1 at h
  split at h
  · rename_i h1;exact ⟨h1,h⟩
  · rename_i h1;exact absurd h h1
 exact ⟨h1.1,h1.2,by simp[zeu,h]⟩
theorem zqm:∀ {l:List (Int × Int)} {a t:Int},ze2 l a=some t→(a,t) ∈ l:=by
 intro l
 induction l with
 | nil=>intro a t h;cases h
 | cons m l ih =>
  intro a t h
  simp only[ze2] at h
  split at h
  · rename_i e
    injection h with h
    rw[←e,←h]
    simp
  · exact List.mem_cons_of_mem _ (ih h)
theorem zGw {ws:List Nat} (h:zc1 ws=0) {a t:Int} (ht:ze2 (zeu ws) a=some t):∃ n:Nat,t=(n:Int)∧128≤n∧n<ws.length∧n<2048∧∃ m:Nat,a=(m:Int)∧128≤m∧m<ws.length:=by
 obtain ⟨h1,h2,h3⟩:=zd1 h
 rw[h3] at ht
 obtain ⟨p,e⟩:=List.mem_iff_getElem?.1 (zqm ht)
 have hp:=(List.getElem?_eq_some_iff.1 e).1
 obtain ⟨m,n,g1,g2,g3,-,-,-⟩:=zw2 h2 hp
 obtain ⟨i1,i2,l,i3,i4,i5⟩:=zb8 h2
 have hb:=zl3 i1
 have i3':blocks ws 128=some l:=i3
 have hrow:=zoy (ws:=ws) (by omega) i3' (by omega) (by omega) (by omega)
 have hmost:(128:Int)≤znt l:=by
  unfold znt
  split
  · omega
  · rename_i hl
    obtain ⟨a0,e0,-,e1,-⟩:=zb5 _ _ i3' (by omega) 0 (by omega)
    rw[zbt l 0 (by omega),e0,zaa];omega
 obtain ⟨k1,k2,k3⟩:=zxc hrow hmost
 rw[e] at g1
 injection g1 with g1
 injection g1 with g4 g5
 rw[i5] at hp e
 have e:=(List.getElem?_eq_some_iff.1 e).2
 have hle:=(k1 p hp).1
 rw[e] at hle
 have hge:(128:Int)≤t:=by
  rcases Nat.eq_zero_or_pos p with h0|h0
  · subst h0
    have:=k3 hp
    rw[e] at this
    dsimp only at this
    omega
  · have h5:=(k2 0 p hp h0).1
    have h6:=k3 (by omega)
    rw[e] at h5
    dsimp only at h5
    omega
 dsimp only at hle
 exact ⟨n,g5,by omega,by omega,by omega,m,g4,g2,by omega⟩
def zf0 (m:List (Int × Int)) (v:Nat):Option Int:=if 2048<v then none else ze2 m (v:Int)
def zkm (l:List Bk) (a:Int):Option Bk:=l.find? fun b=>b.at_ == a && b.kind == 1
def zrp (l:List Bk) (a:Int) (k:Nat):Prop:=∀ j,j<k→((gk l j).at_ == a && (gk l j).kind == 1)=false
theorem zyr (l:List Bk) (a:Int):zrp l a 0:=fun j h=>absurd h (by omega)
theorem zx9 {l:List Bk} {a:Int} {k:Nat} (h:zrp l a k) (h2:((gk l k).at_ == a && (gk l k).kind == 1)=false):zrp l a (k+1):=fun j hj=>by
 rcases Nat.lt_or_ge j k with h3|h3
 · exact h j h3
 · have:j=k:=by omega
   subst this;exact h2
theorem zAt:∀ {l:List Bk} {a:Int},zrp l a l.length→zkm l a=none:=by
 intro l
 induction l with
 | nil=>intro a _;rfl
 | cons b l ih =>
  intro a h
  have h0:(b.at_ == a && b.kind == 1)=false:=h 0 (by simp)
  unfold zkm
  rw[List.find?_cons,h0]
  exact ih fun j hj=>by have:=h (j+1) (by simpa using hj);rwa [zhk] at this
theorem zIq:∀ {l:List Bk} {a:Int} {k:Nat},k<l.length→zrp l a k→((gk l k).at_ == a && (gk l k).kind == 1)=true→zkm l a=some (gk l k):=by
 intro l
 induction l with
 | nil=>intro a k h;simp at h
 | cons b l ih =>
  intro a k hk h hm
  cases k with
  | zero =>
   rw[zmn] at hm ⊢
   unfold zkm
   rw[List.find?_cons,hm]
  | succ k =>
   have h0:(b.at_ == a && b.kind == 1)=false:=h 0 (by omega)
   unfold zkm
   rw[List.find?_cons,h0]
   rw[zhk] at hm ⊢
   exact ih (by simpa using hk) (fun j hj=>by have:=h (j+1) (by omega);rwa [zhk] at this) hm
def zxy (ws:List Nat) (a:Int):Bk:=(zkm (za5 ws 128) a).getD zlv
def zdt (ws:List Nat) (a:Int):Int:=if (zkm (za5 ws 128) a).isSome then 0 else 6
theorem zh7 {l:List Bk} {a:Int} {b:Bk} (h:zkm l a=some b):b ∈ l∧b.at_=a∧b.kind=1:=by
 unfold zkm at h
 have h1:=List.find?_some h
 simp only[Bool.and_eq_true,beq_iff_eq] at h1
 exact ⟨List.mem_of_find?_eq_some h,h1.1,h1.2⟩
def zt0 (F:List Nat) (a:Int) (j:Nat):List Int:=(List.range j).filterMap fun (i:Nat)=>if F[i]? = some 3 then some (a+2+(i:Int)) else none
theorem zrd (F:List Nat) (a:Int) (j:Nat):zt0 F a (j+1)=zt0 F a j++(if F[j]? = some 3 then [a+2+(j:Int)] else []):=by
 unfold zt0
 rw[List.range_succ,List.filterMap_append]
 congr 1
 simp only[List.filterMap_cons,List.filterMap_nil]
 split <;> simp_all
theorem zvt (F:List Nat) (a:Int) (j:Nat):(zt0 F a j).length≤j:=by
 unfold zt0
 have:=List.length_filterMap_le (fun (i:Nat)=>if F[i]? = some 3 then some (a+2+(i:Int)) else none) (List.range j)
 rwa [List.length_range] at this
theorem zke {F:List Nat} {a x:Int} {j:Nat}:x ∈ zt0 F a j↔∃ i,i<j∧F[i]? = some 3∧x=a+2+(i:Int):=by
 unfold zt0
 rw[List.mem_filterMap]
 constructor
 · rintro ⟨i,h1,h2⟩
   split at h2
   · rename_i h3
     injection h2 with h2
     exact ⟨i,List.mem_range.1 h1,h3,h2.symm⟩
   · cases h2
 · rintro ⟨i,h1,h2,h3⟩
   exact ⟨i,List.mem_range.2 h1,by rw[if_pos h2,h3]⟩
def zxs (ws:List Nat) (b:Bk):List Nat:=zbd (wd ws (tyA b)) (wd ws (tyA b+1))
def zfr (ws:List Nat) (b:Bk):List Int:=zt0 (zxs ws b) b.at_ (zxs ws b).length
theorem zH8 {ws:List Nat} (h:zae ws=0) {a:Int} {b:Bk} (ho:zkm (za5 ws 128) a=some b):∃ m:Nat,a=(m:Int)∧b=bkAt ws m∧zep ws m:=by
 obtain ⟨h1,h2,h3⟩:=zh7 ho
 rw[(zfi h).2.1] at h1
 obtain ⟨k,hk,rfl⟩:=List.getElem_of_mem h1
 obtain ⟨m,e1,e2⟩:=ziy h hk h3
 exact ⟨m,by rw[←h2,e1];rfl,e1,e2⟩
def zfk (ws:List Nat) (m:List (Int × Int)) (r:Nat):Option (List En):=if wd ws r=0 then some [] else match zf0 m (wd ws r) with
 | none=>none
 | some t=>if (wd ws r:Int)=t then some [] else some [⟨(r:Int),t.toNat⟩]
def zdh (ws:List Nat) (m:List (Int × Int)):List Int→Option (List En)
 | []=>some []
 | r :: l=>match zfk ws m r.toNat with
  | none=>none
  | some x=>(zdh ws m l).map (x ++ ·)
theorem zh6 (ws:List Nat) (m:List (Int × Int)) (a b:List Int):zdh ws m (a++b)=match zdh ws m a with
  | none=>none
  | some x=>(zdh ws m b).map (x ++ ·):=by
 induction a with
 | nil=>simp[zdh]
 | cons r a ih =>
  simp only[List.cons_append,zdh]
  cases zfk ws m r.toNat with
  | none=>rfl
  | some x =>
   rw[ih]
   cases zdh ws m a with
   | none=>rfl
   | some y =>
    cases zdh ws m b with
    | none=>rfl
    | some z=>simp
theorem zks {ws:List Nat} {m:List (Int × Int)} {l:List Int} {k:Nat} (hk:k<l.length) {o:List En} (h:zdh ws m (l.take k)=some o):zdh ws m (l.take (k+1))=(zfk ws m l[k].toNat).map (o ++ ·):=by
 rw[List.take_succ_eq_append_getElem hk,zh6,h]
 simp only[zdh]
 cases zfk ws m l[k].toNat <;> simp
theorem zBa {ws:List Nat} {m:List (Int × Int)} {l:List Int} {k:Nat} (hk:k<l.length) {o:List En} (h:zdh ws m (l.take k)=some o) (h2:zfk ws m l[k].toNat=none):zdh ws m l=none:=by
 conv=>lhs;rw[←List.take_append_drop (k+1) l]
 rw[zh6,zks hk h,h2]
 rfl
theorem zse {ws:List Nat} {m:List (Int × Int)}:∀ {l:List Int} {o:List En},zdh ws m l=some o→o.length≤l.length:=by
 intro l
 induction l with
 | nil=>intro o h;simp only[zdh,Option.some.injEq] at h;subst h;simp
 | cons r l ih =>
  intro o h
  simp only[zdh] at h
  cases hs:zfk ws m r.toNat with
  | none=>rw[hs] at h;cases h
  | some x =>
   rw[hs] at h
   cases hl:zdh ws m l with
   | none=>rw[hl] at h;cases h
   | some y =>
    rw[hl] at h
    simp only[Option.map_some,Option.some.injEq] at h
    subst h
    have h1:=ih hl
    have h2:x.length≤1:=by
     unfold zfk at hs
     split at hs
     · injection hs with hs;subst hs;simp
     · split at hs
       · cases hs
       · split at hs <;> (injection hs with hs;subst hs;simp)
    rw[List.length_append,List.length_cons];omega
def zdw (ws:List Nat) (a:Int):Int:=if zc1 ws=0 then (match zkm (za5 ws 128) a with
 | none=>6
 | some b=>if b.mark=true then (match zdh ws (zeu ws) (zfr ws b) with | none=>50 | some _=>0) else 6) else zc1 ws
def zct (ws:List Nat) (a:Int):List En:=if zc1 ws=0 then (match zkm (za5 ws 128) a with
 | none=>[]
 | some b=>if b.mark=true then (zdh ws (zeu ws) (zfr ws b)).getD [] else []) else []
theorem zBe {ws:List Nat} {a r:Int} (h:zc1 ws=r) (h0:r≠0):zdw ws a=r∧zct ws a=[]:=by subst h;simp[zdw,zct,h0]
theorem zt9 {ws:List Nat} {a:Int} (h:zc1 ws=0) (h1:zkm (za5 ws 128) a=none):zdw ws a=6∧zct ws a=[]:=by simp[zdw,zct,h,h1]
theorem zt8 {ws:List Nat} {a:Int} (h:zc1 ws=0) {b:Bk} (h1:zkm (za5 ws 128) a=some b) (h2:b.mark=false):zdw ws a=6∧zct ws a=[]:=by simp[zdw,zct,h,h1,h2]
theorem zCw {ws:List Nat} {a:Int} (h:zc1 ws=0) {b:Bk} (h1:zkm (za5 ws 128) a=some b) (h2:b.mark=true) (h3:zdh ws (zeu ws) (zfr ws b)=none):zdw ws a=50∧zct ws a=[]:=by simp[zdw,zct,h,h1,h2,h3]
theorem zDj {ws:List Nat} {a:Int} (h:zc1 ws=0) {b:Bk} (h1:zkm (za5 ws 128) a=some b) (h2:b.mark=true) {o:List En} (h3:zdh ws (zeu ws) (zfr ws b)=some o):zdw ws a=0∧zct ws a=o:=by simp[zdw,zct,h,h1,h2,h3]
def zn0 (ws:List Nat) (a:Int):Int:=if zae ws=0 then zdt ws a else zae ws
def zb0 (ws:List Nat) (a:Int):List Int:=if zae ws=0 then (match zkm (za5 ws 128) a with | none=>[] | some b=>zfr ws b) else []
def zn1 (s:Sl):Nat:=s.at_.toNat+s.gen.toNat * 4294967296+(if s.used=true then 9223372036854775808 else 0)
def zig (ws:List Nat) (m:List (Int × Int)) (i:Nat):Option (List En):=if (slAt ws i).used=true then (match zf0 m (slAt ws i).at_.toNat with
 | none=>none
 | some t=>if wd ws (112+i)=zn1 ⟨(slAt ws i).gen,true,t⟩ then some [] else some [⟨((112+i:Nat):Int),zn1 ⟨(slAt ws i).gen,true,t⟩⟩]) else some []
def zen (ws:List Nat) (m:List (Int × Int)):Nat→Option (List En)
 | 0=>some []
 | k+1=>match zen ws m k with
  | none=>none
  | some o=>(zig ws m k).map (o ++ ·)
theorem zyp {ws:List Nat} {m:List (Int × Int)} {k:Nat} (h:zen ws m k=none):∀ {n:Nat},k≤n→zen ws m n=none:=by
 intro n
 induction n with
 | zero =>
     intro hk;have:k=0:=by omega
     subst this;exact h
 | succ n ih =>
  intro hk
  rcases Nat.lt_or_ge n k with h1|h1
  · have:k=n+1:=by omega
    subst this;exact h
  · simp only[zen,ih h1]
theorem zsb {ws:List Nat} {m:List (Int × Int)}:∀ {k:Nat} {o:List En},zen ws m k=some o→o.length≤k:=by
 intro k
 induction k with
 | zero=>intro o h;simp only[zen,Option.some.injEq] at h;subst h;simp
 | succ k ih =>
  intro o h
  simp only[zen] at h
  cases hk:zen ws m k with
  | none=>rw[hk] at h;cases h
  | some x =>
   rw[hk] at h
   cases hs:zig ws m k with
   | none=>rw[hs] at h;cases h
   | some y =>
    rw[hs] at h
    simp only[Option.map_some,Option.some.injEq] at h
    subst h
    have h1:=ih hk
    have h2:y.length≤1:=by
     unfold zig at hs
     split at hs
     · split at hs
       · cases hs
       · split at hs <;> (injection hs with hs;subst hs;simp)
     · injection hs with hs;subst hs;simp
    rw[List.length_append];omega
def zey (ws:List Nat):Int:=if zc1 ws=0 then (if slsOk ws=true then (match zen ws (zeu ws) 16 with | none=>50 | some _=>0) else 50) else zc1 ws
def zec (ws:List Nat):List En:=if zey ws=0 then (zen ws (zeu ws) 16).getD [] else []
end Go.Proofs.YtpcajamacpbjcaaGreat
namespace Go.Proofs.YtpcajamacpbjcaaGreat
open Lib (hid)
open Go.RowKit
set_option maxRecDepth 100000 in
set_option maxHeartbeats 2000000 in
theorem zEd (A:Option Addr) (m:List (Int × Int)) (c n v:Nat) (w:World) (hn:m.length=n) (hm:n≤1000000) (hv:v<18446744073709551616) (hr:RdM w w.heap.size A m) :
   Calls Tryz.prog 256 #[.slice A n c,.int .u64 (v:Int)] w fun e w'=>e=.returned (.tuple #[.int .i64 ((zf0 m v).getD 0),.bool (zf0 m v).isSome])∧Below w.heap.size w w':=by
 have HC:=hid (fun a=>fwTo_c A m c n w.heap.size a w hn hm hr (Nat.le_refl _))
 by_cases h:2048<v
 · have H:Hid (zf0 m v=none):=hid (by simp[zf0,h])
   have h1:decide ((2048:Int)<(v:Int))=true:=by rw[decide_eq_true_iff];omega
   have h1n:decide (2048<v)=true:=by rw[decide_eq_true_iff];exact h
   clear hv hr hn hm h
   go_enter Tryz.func256,Tryz.ntmps256
   go_wp2_with fail
   go_ret2
   exact ⟨by rw[H.out];rfl,Below.refl _ _⟩
 · have H:Hid (zf0 m v=ze2 m (v:Int)):=hid (by simp[zf0,h])
   have h1:decide ((2048:Int)<(v:Int))=false:=by rw[decide_eq_false_iff_not];omega
   have h1n:decide (2048<v)=false:=by rw[decide_eq_false_iff_not];exact h
   have hw:IntKind.i64.wrap (v:Int)=(v:Int):=IntWalk.i64_in _ (by omega)
   have HC2:=hid (HC.out (v:Int))
   rw[←H.out] at HC2
   obtain ⟨q,hq⟩:∃ q,zf0 m v=q:=⟨_,rfl⟩
   rw[hq] at HC2 ⊢
   clear hv hr hn hm h hq HC H
   go_enter Tryz.func256,Tryz.ntmps256
   go_wp2_with fail
   refine HC2.out.mono ?_
   rintro e w1 ⟨rfl,hB1⟩
   go_wp2_with fail
   go_ret2
   exact ⟨rfl,hB1⟩
def zLk (ws:List Nat) (e:Ending) (w':World):Prop:=∃ A c,e=.returned (.tuple #[.slice A (zeu ws).length c,.int .i64 (zc1 ws)])∧RdM w' w'.heap.size A (zeu ws)∧(zeu ws).length≤c
set_option maxRecDepth 100000 in
set_option maxHeartbeats 2000000 in
theorem zv6 (A:Option Addr) (ws:List Nat) (c n:Nat) (w:World) (hn:ws.length=n) (hm:n≤9223372036854775807) (hr:RdW w w.heap.size A ws) (ho:∀ x ∈ ws,x<18446744073709551616) :
   Calls Tryz.prog 255 #[.slice A n c] w fun e w'=>zLk ws e w'∧Below w.heap.size w w':=by
 have HR:=hid hr
 have HCK:=hid (zmd A ws c n w hn hm hr ho)
 have HRD:=hid (fun W (h:RdW W W.heap.size A ws)=>zqn A ws c n 128 128 W hn hm (by omega) (by omega) h ho)
 unfold zwn at HRD
 clear hr ho hn hm
 by_cases h0:zae ws=0
 · have HE:Hid (zc1 ws=zbi ws 128 128∧zeu ws=zhn ws 128 128):=hid (by
    have h1:zc1 ws=zbi ws 128 128:=by simp[zc1,h0]
    refine ⟨h1,?_⟩
    unfold zeu
    rw[h1]
    split
    · rfl
    · rename_i h2;simp[zhn,h2])
   rw[h0] at HCK
   clear h0
   go_enter Tryz.func255,Tryz.ntmps255
   go_wp2_with fail
   refine HCK.out.mono ?_
   rintro e w1 ⟨rfl,hB1⟩
   have HB1:=hid hB1
   have HR1:=hid (HR.out.up hB1 hB1.size)
   clear hB1
   go_wp2_with fail
   refine (HRD.out _ HR1.out).mono ?_
   rintro e w2 ⟨⟨A2,c2,rfl,hrd,hcl⟩,hB2⟩
   have HB2:=hid (HB1.out.trans (hB2.mono HB1.out.size))
   have HM2:=hid hrd
   have HC2:=hid hcl
   clear hB2 hrd hcl
   go_wp2_with fail
   go_ret2
   exact ⟨⟨A2,c2,by rw[HE.out.1,HE.out.2];rfl,by rw[HE.out.2];exact HM2.out,by rw[HE.out.2];exact HC2.out⟩,HB2.out⟩
 · obtain ⟨r,hr⟩:∃ r,zae ws=r:=⟨_,rfl⟩
   have HE:Hid (zc1 ws=r∧zeu ws=[]):=hid (by
    have h1:zc1 ws=r:=by unfold zc1;rw[if_neg h0,hr]
    exact ⟨h1,by unfold zeu;rw[h1,if_neg (by rw[←hr];exact h0)]⟩)
   rw[hr] at HCK h0
   have hrn:(r != 0)=true:=by rw[bne_iff_ne];exact h0
   clear h0 hr
   go_enter Tryz.func255,Tryz.ntmps255
   go_wp2_with fail
   refine HCK.out.mono ?_
   rintro e w1 ⟨rfl,hB1⟩
   go_wp2_with fail
   go_ret2
   exact ⟨⟨none,0,by rw[HE.out.1,HE.out.2];rfl,by rw[HE.out.2];exact Rd.nil_,by rw[HE.out.2];exact Nat.le_refl _⟩,hB1⟩
theorem zIj {a g:Nat} (ha:a<4294967296) (hg:g<2147483648):bits BinOp.or .u64 (a:Int) ((g:Int) * 4294967296)=((a+g * 4294967296:Nat):Int) ∧
  bits BinOp.or .u64 ((a+g * 4294967296:Nat):Int) 9223372036854775808=((a+g * 4294967296+9223372036854775808:Nat):Int):=by
 refine ⟨or32 ha (by omega),?_⟩
 have h:=u64_or_nat (a+g * 4294967296) 9223372036854775808 (by omega) (by omega)
 have e:(a+g * 4294967296) ||| 9223372036854775808=a+g * 4294967296+9223372036854775808:=by
  rw[show (9223372036854775808:Nat)=1 * 2 ^ 63 by decide,zi1 (i:=63) (by omega)]
 rw[e] at h
 exact h
theorem zDu {a g p q:Nat} (hp:a+g * 4294967296=p) (hq:p+9223372036854775808=q):zn1 ⟨(g:Int),true,(a:Int)⟩=q:=by
 unfold zn1
 dsimp only
 rw[Int.toNat_natCast,Int.toNat_natCast,if_pos rfl,hp,hq]
theorem zx0 {a g p:Nat} (hp:a+g * 4294967296=p):zn1 ⟨(g:Int),false,(a:Int)⟩=p:=by
 unfold zn1
 dsimp only
 rw[Int.toNat_natCast,Int.toNat_natCast,if_neg (by simp),hp,Nat.add_zero]
section
set_option maxRecDepth 100000
set_option maxHeartbeats 2000000
theorem zF0 (g a p:Nat) (w:World) (hg:g<2147483648) (ha:a<4294967296) (o1:bits BinOp.or .u64 (a:Int) ((g:Int) * 4294967296)=(p:Int)) :
  Calls Tryz.prog 285 #[.agg #[.int .i64 (g:Int),.bool false,.int .i64 (a:Int)]] w fun e w'=>e=.returned (.int .u64 (p:Int))∧Below w.heap.size w w':=by
 have hw1:IntKind.u64.wrap (a:Int)=(a:Int):=IntWalk.u64_in _ (by omega)
 have hw2:IntKind.u64.wrap (g:Int)=(g:Int):=IntWalk.u64_in _ (by omega)
 have hw3:IntKind.u64.wrap ((g:Int) * 4294967296)=(g:Int) * 4294967296:=IntWalk.u64_in _ (by omega)
 have HB:=hid ((Below.refl w.heap.size w).alloc (Nat.le_refl _) (.cells #[.int .i64 (g:Int),.bool false,.int .i64 (a:Int)] 52))
 clear ha hg
 go_enter Tryz.func285,Tryz.ntmps285
 go_wp2_with fail
 go_ret
 exact ⟨rfl,HB.out⟩
theorem zFd (g a p q:Nat) (w:World) (hg:g<2147483648) (ha:a<4294967296) (o1:bits BinOp.or .u64 (a:Int) ((g:Int) * 4294967296)=(p:Int)) (o2:bits BinOp.or .u64 (p:Int) 9223372036854775808=(q:Int)) :
  Calls Tryz.prog 285 #[.agg #[.int .i64 (g:Int),.bool true,.int .i64 (a:Int)]] w fun e w'=>e=.returned (.int .u64 (q:Int))∧Below w.heap.size w w':=by
 have hw1:IntKind.u64.wrap (a:Int)=(a:Int):=IntWalk.u64_in _ (by omega)
 have hw2:IntKind.u64.wrap (g:Int)=(g:Int):=IntWalk.u64_in _ (by omega)
 have hw3:IntKind.u64.wrap ((g:Int) * 4294967296)=(g:Int) * 4294967296:=IntWalk.u64_in _ (by omega)
 have HB:=hid ((Below.refl w.heap.size w).alloc (Nat.le_refl _) (.cells #[.int .i64 (g:Int),.bool true,.int .i64 (a:Int)] 52))
 clear ha hg
 go_enter Tryz.func285,Tryz.ntmps285
 go_wp2_with fail
 go_ret
 exact ⟨rfl,HB.out⟩
end
theorem zKf (g a:Nat) (u:Bool) (w:World) (hg:g<2147483648) (ha:a<4294967296) :
   Calls Tryz.prog 285 #[.agg #[.int .i64 (g:Int),.bool u,.int .i64 (a:Int)]] w fun e w'=>e=.returned (.int .u64 (zn1 ⟨(g:Int),u,(a:Int)⟩:Nat))∧Below w.heap.size w w':=by
 obtain ⟨o1,o2⟩:=zIj ha hg
 obtain ⟨p,hp⟩:∃ p,a+g * 4294967296=p:=⟨_,rfl⟩
 rw[hp] at o1 o2
 obtain ⟨q,hq⟩:∃ q,p+9223372036854775808=q:=⟨_,rfl⟩
 rw[hq] at o2
 cases u
 · rw[zx0 hp]
   exact zF0 g a p w hg ha o1
 · rw[zDu hp hq]
   exact zFd g a p q w hg ha o1 o2
set_option maxRecDepth 100000 in
set_option maxHeartbeats 2000000 in
theorem zKc (g a:Nat) (u:Bool) (w:World) (hg:g<2147483648) (ha:a<4294967296) (hok:znd ⟨(g:Int),u,(a:Int)⟩=true) :
  Calls Tryz.prog 257 #[.agg #[.int .i64 (g:Int),.bool u,.int .i64 (a:Int)]] w fun e w'=>e=.returned (.tuple #[.int .u64 (zn1 ⟨(g:Int),u,(a:Int)⟩:Nat),.int .i64 0])∧Below w.heap.size w w':=by
 have HRT:=hid (fun W=>zv0 (g:Int) u (a:Int) W (by omega) (by omega))
 rw[hok] at HRT
 have HPK:=hid (fun W=>zKf g a u W hg ha)
 have b0:=Bx.new w 52 #[.int .i64 (g:Int),.bool u,.int .i64 (a:Int)]
 have B0:=hid b0
 have HB:=hid ((Below.refl w.heap.size w).alloc (Nat.le_refl _) (.cells #[.int .i64 (g:Int),.bool u,.int .i64 (a:Int)] 52))
 obtain ⟨V,hV⟩:∃ V,zn1 ⟨(g:Int),u,(a:Int)⟩=V:=⟨_,rfl⟩
 rw[hV] at HPK ⊢
 clear b0 hV hok hg ha
 go_enter Tryz.func257,Tryz.ntmps257
 go_wp2_with fail
 refine (HRT.out _).mono ?_
 rintro e w1 ⟨rfl,hB1⟩
 have hb1:=B0.out.up hB1 B0.out.lt
 obtain ⟨p0,p1,p2,-⟩:=hb1.c3
 have HB1:=hid (HB.out.trans (hB1.mono HB.out.size))
 clear hB1 hb1
 go_wp2_with fail
 refine (HPK.out _).mono ?_
 rintro e w2 ⟨rfl,hB2⟩
 go_wp2_with fail
 go_ret2
 exact ⟨rfl,HB1.out.trans (hB2.mono HB1.out.size)⟩
end Go.Proofs.YtpcajamacpbjcaaGreat
namespace Go.Proofs.YtpcajamacpbjcaaGreat
open Lib (hid)
open Go.RowKit
section
set_option maxRecDepth 100000
set_option maxHeartbeats 4000000
theorem zBi (A:Option Addr) (ws:List Nat) (c n:Nat) (a:Int) (w:World) (hn:ws.length=n) (hm:n≤9223372036854775807) (hr:RdW w w.heap.size A ws) (ho:∀ x ∈ ws,x<18446744073709551616) :
  Calls Tryz.prog 258 #[.slice A n c,.int .i64 a] w fun e w'=>e=.returned (.tuple #[(zxy ws a).val,.int .i64 (zdt ws a)])∧Below w.heap.size w w':=by
 have HFR:=hid (zlm A ws c n 128 (w.alloc (.cells #[.int .i64 0,.int .i64 0,.int .i64 0,.int .i64 0,.bool false,.int .u64 0] 55)) hn hm ((hr.alloc (Nat.le_refl _) _).more (by simp)) ho)
 unfold zph at HFR
 rw[World.size_alloc] at HFR
 have hlen:=zgx ws 128
 have HN:Hid (zrp (za5 ws 128) a (za5 ws 128).length→zxy ws a=zlv∧zdt ws a=6):=hid fun h=>by simp[zxy,zdt,zAt h]
 have HY:Hid (∀ k,k<(za5 ws 128).length→zrp (za5 ws 128) a k→((gk (za5 ws 128) k).at_ == a && (gk (za5 ws 128) k).kind == 1)=true→zxy ws a=gk (za5 ws 128) k∧zdt ws a=0):=hid fun k h1 h2 h3=>by simp[zxy,zdt,zIq h1 h2 h3]
 obtain ⟨l,hl⟩:∃ l,za5 ws 128=l:=⟨_,rfl⟩
 obtain ⟨r,hr'⟩:∃ r,zca ws 128=r:=⟨_,rfl⟩
 rw[hl,hr'] at HFR
 rw[hl] at hlen HN HY
 have hi6:=zpo
 clear hl hr' hr ho hn hm
 go_enter Tryz.func258,Tryz.ntmps258
 go_wp2_with fail
 refine HFR.out.mono ?_
 rintro e w1 ⟨⟨A1,c1,rfl,hrd,-⟩,hB1⟩
 have hb1:=zan hB1
 have hz1:=hb1.size
 have b0:=hid (Bx.of_new hB1)
 have hz1':=b0.out.lt
 have HRD:=hid hrd
 have HB1:=hid hb1
 clear hrd hB1 hb1
 go_wp2_with fail
 go_loopw [17] (fun i wr=>∃ k:Nat,k≤l.length∧i=.int .i64 k∧Hid (zrp l a k)∧Below w1.heap.size w1 wr) (fun i _=>l.length - (intOf i).toNat)
 case atStart=>exact ⟨0,Nat.zero_le _,rfl,zyr l a,Below.refl _ _⟩
 case round =>
  obtain ⟨k,hk,rfl,HNO,hB⟩:=hrel
  have hz:=hB.size
  have BXr:=hid (b0.out.up hB hz1')
  by_cases hlt:k<l.length
  · obtain ⟨b,off,rfl,hbw,q0,q1,q2,q3,q4,q5⟩:=RdB.at_ (HRD.out.below hB) hlt
    have HS:=hid (fun h=>zx9 HNO.out h)
    have HYK:=hid (fun h=>HY.out k hlt HNO.out h)
    rw[zbt l k hlt] at HS HYK
    obtain ⟨x,hx⟩:∃ x,l[k]=x:=⟨_,rfl⟩
    rw[hx] at q0 q1 q2 q3 q4 q5 HS HYK
    obtain ⟨xa,xs,xk,xt,xm,xn⟩:=x
    dsimp only at q0 q1 q2 q3 q4 q5 HS
    have hlm:(k:Int)<(l.length:Int):=by omega
    clear hx
    obtain ⟨d1,e1⟩:∃ d,(xa == a)=d:=⟨_,rfl⟩
    obtain ⟨d2,e2⟩:∃ d,(xk == 1)=d:=⟨_,rfl⟩
    dsimp only at HYK
    rw[e1,e2] at HS HYK
    cases d1
    · have HS2:=hid (HS.out rfl)
      clear HS HYK e2
      go_wp2_with fail
      go_roundw
      case rel=>exact ⟨k+1,by omega,by go_num,HS2.out,hB.alloc hz _⟩
      case measure=>simp[intOf];omega
    · cases d2
      · have HS2:=hid (HS.out rfl)
        clear HS HYK
        go_wp2_with fail
        go_roundw
        case rel=>exact ⟨k+1,by omega,by go_num,HS2.out,hB.alloc hz _⟩
        case measure=>simp[intOf];omega
      · have HV:=hid (HYK.out rfl)
        have hnew:=hid (Bx.new wr 55 #[.int .i64 xa,.int .i64 xs,.int .i64 xk,.int .i64 xt,.bool xm,.int .u64 (xn:Int)])
        have HBA:=hid (hB.alloc hz (.cells #[.int .i64 xa,.int .i64 xs,.int .i64 xk,.int .i64 xt,.bool xm,.int .u64 (xn:Int)] 55))
        have BXA:=hid (BXr.out.alloc (.cells #[.int .i64 xa,.int .i64 xs,.int .i64 xk,.int .i64 xt,.bool xm,.int .u64 (xn:Int)] 55))
        clear HS HYK
        go_upto_region 6 with (fail)
        obtain ⟨wn,hwn⟩:∃ wn,wr.alloc (.cells #[.int .i64 xa,.int .i64 xs,.int .i64 xk,.int .i64 xt,.bool xm,.int .u64 (xn:Int)] 55)=wn:=⟨_,rfl⟩
        rw[hwn] at hnew BXA HBA ⊢
        clear hwn
        go_wp2_with (first
         | ((with_reducible refine zh9 55 (.tmp 9) ?_);refine wpList_load_row rfl _ _ rfl wr.heap.size (by rfl) 55 #[.int .i64 xa,.int .i64 xs,.int .i64 xk,.int .i64 xt,.bool xm,.int .u64 (xn:Int)] (0,0) _ hnew.out Tryz.underlying55 (by rfl) hi6 ?_)
         | ((with_reducible refine zbu 55 (.tmp 4) _ ?_);refine zai rfl _ _ _ rfl w.heap.size 55 #[.int .i64 0,.int .i64 0,.int .i64 0,.int .i64 0,.bool false,.int .u64 0] #[.int .i64 xa,.int .i64 xs,.int .i64 xk,.int .i64 xt,.bool xm,.int .u64 (xn:Int)] (by rfl) (by rfl) BXA.out rfl hi6 (zpc _ _ _ _ _ _) ?_;intro w3 hb3 ha3;have HB3:=hid hb3;have HA3:=hid ha3;clear hb3 ha3))
        exact bodyPost_ret (v:=.tuple #[.agg #[.int .i64 xa,.int .i64 xs,.int .i64 xk,.int .i64 xt,.bool xm,.int .u64 (xn:Int)],.int .i64 0]) (za6 Tryz.results258 _ HB3.out rfl rfl) rfl ⟨by rw[HV.out.1,HV.out.2];rfl,HA3.out.below (HB1.out.trans (HBA.out.mono hz1)) (Nat.le_refl _)⟩
  · have HV:=hid (HN.out (by have:=HNO.out;rwa [show k=l.length by omega] at this))
    have HBr:=hid (HB1.out.trans (hB.mono hz1))
    obtain ⟨x0,x1,x2,x3,x4,x5,fz,hgl⟩:=BXr.out.c6
    have f0:=fz 0
    have f1:=fz 1
    have f2:=fz 2
    have f3:=fz 3
    have f4:=fz 4
    have f5:=fz 5
    clear fz
    go_wp2_with fail
    exact bodyPost_ret (v:=.tuple #[.agg #[.int .i64 0,.int .i64 0,.int .i64 0,.int .i64 0,.bool false,.int .u64 0],.int .i64 6]) (za6 Tryz.results258 _ (zlf BXr.out _ _ _ _ _ _) rfl rfl) rfl ⟨by rw[HV.out.1,HV.out.2];rfl,zfd HBr.out (Nat.le_refl _) _ _ _ _ _ _⟩
theorem zur (A:Option Addr) (ws:List Nat) (c n t xa:Nat) (xs xk:Int) (xm:Bool) (xn:Nat) (w:World) (hn:ws.length=n) (hm:n≤1000000) (h2:256≤n) (ht:t<8) (hxa:xa≤1000000) (hr:RdW w w.heap.size A ws) (ho:∀ x ∈ ws,x<18446744073709551616) :
  Calls Tryz.prog 259 #[.slice A n c,.agg #[.int .i64 (xa:Int),.int .i64 xs,.int .i64 xk,.int .i64 (t:Int),.bool xm,.int .u64 (xn:Int)]] w fun e w'=>(∃ A' c',e=.returned (.slice A' (zfr ws ⟨(xa:Int),xs,xk,(t:Int),xm,xn⟩).length c')∧RdI w' w'.heap.size A' (zfr ws ⟨(xa:Int),xs,xk,(t:Int),xm,xn⟩)∧(zfr ws ⟨(xa:Int),xs,xk,(t:Int),xm,xn⟩).length≤c')∧Below w.heap.size w w':=by
 subst hn
 have hx:=ze6 ho (96+2 * t)
 have hy:=ze6 ho (96+2 * t+1)
 have HC:=hid (fun W=>zqh (wd ws (96+2 * t)) (wd ws (96+2 * t+1)) W hx hy)
 unfold zFj at HC
 have hmx:=zjm (wd ws (96+2 * t)) (wd ws (96+2 * t+1))
 have hrf:zfr ws ⟨(xa:Int),xs,xk,(t:Int),xm,xn⟩=zt0 (zbd (wd ws (96+2 * t)) (wd ws (96+2 * t+1))) (xa:Int) (zbd (wd ws (96+2 * t)) (wd ws (96+2 * t+1))).length:=rfl
 rw[hrf]
 clear hrf
 obtain ⟨b,off,rfl,hb,h0⟩:=RdW.at_ hr (show 96+2 * t<ws.length by omega)
 obtain ⟨b',off',e',-,h1⟩:=RdW.at_ hr (show 96+2 * t+1<ws.length by omega)
 cases e'
 rw[←zcb] at h0 h1
 obtain ⟨x,hx2⟩:∃ x,wd ws (96+2 * t)=x:=⟨_,rfl⟩
 obtain ⟨y,hy2⟩:∃ y,wd ws (96+2 * t+1)=y:=⟨_,rfl⟩
 rw[hx2] at h0 HC hmx ⊢
 rw[hy2] at h1 HC hmx ⊢
 obtain ⟨F,hF⟩:∃ F,zbd x y=F:=⟨_,rfl⟩
 obtain ⟨r,hr'⟩:∃ r,zef x y=r:=⟨_,rfl⟩
 rw[hF,hr'] at HC
 rw[hF] at hmx ⊢
 have HRS:=hid (fun j=>zrd F (xa:Int) j)
 have HRL:=hid (fun j=>zvt F (xa:Int) j)
 have t0:(0:Int)≤(t:Int):=by omega
 have t8:(t:Int)<8:=by omega
 have w1:IntKind.i64.wrap (2 * (t:Int))=2 * (t:Int):=IntWalk.i64_in _ (by omega)
 have w2:IntKind.i64.wrap (96+2 * (t:Int))=96+2 * (t:Int):=IntWalk.i64_in _ (by omega)
 have w3:IntKind.i64.wrap (96+2 * (t:Int)+1)=96+2 * (t:Int)+1:=IntWalk.i64_in _ (by omega)
 have wa:IntKind.i64.wrap ((xa:Int)+2)=(xa:Int)+2:=IntWalk.i64_in _ (by omega)
 have i1:(0:Int)≤96+2 * (t:Int):=by omega
 have i2:(96:Int)+2 * (t:Int)<(ws.length:Int):=by omega
 have i3:(0:Int)≤96+2 * (t:Int)+1:=by omega
 have i4:(96:Int)+2 * (t:Int)+1<(ws.length:Int):=by omega
 have n1:((96:Int)+2 * (t:Int)).toNat=96+2 * t:=by omega
 have n2:((96:Int)+2 * (t:Int)+1).toNat=96+2 * t+1:=by omega
 have bx:=Bx.new w 55 #[.int .i64 (xa:Int),.int .i64 xs,.int .i64 xk,.int .i64 (t:Int),.bool xm,.int .u64 (xn:Int)]
 have hbw:=(Below.refl w.heap.size w).alloc (Nat.le_refl _) (.cells #[.int .i64 (xa:Int),.int .i64 xs,.int .i64 xk,.int .i64 (t:Int),.bool xm,.int .u64 (xn:Int)] 55)
 replace h0:=(hbw.cell (p:=⟨b,off+(96+2 * t),none⟩) hb).trans h0
 replace h1:=(hbw.cell (p:=⟨b,off+(96+2 * t+1),none⟩) hb).trans h1
 have hsw:(w.alloc (.cells #[.int .i64 (xa:Int),.int .i64 xs,.int .i64 xk,.int .i64 (t:Int),.bool xm,.int .u64 (xn:Int)] 55)).heap.size=w.heap.size+1:=by simp
 obtain ⟨i0,hi,hz0,hz1,hz2⟩:=info_parts zue
 have HI:=hid hi
 have HZ0:=hid hz0
 have HZ1:=hid hz1
 have HZ2:=hid hz2
 clear hi hz0 hz1 hz2
 clear hr hx hy hx2 hy2 ho ht hF hr'
 go_enter Tryz.func259,Tryz.ntmps259
 go_wp2_with fail
 obtain ⟨W0,hW0⟩:∃ W0,w.alloc (.cells #[.int .i64 (xa:Int),.int .i64 xs,.int .i64 xk,.int .i64 (t:Int),.bool xm,.int .u64 (xn:Int)] 55)=W0:=⟨_,rfl⟩
 rw[hW0] at h0 h1 bx hbw hsw ⊢
 clear hW0
 have b3:W0.cell? ⟨w.heap.size,3,none⟩=some (.int .i64 (t:Int)):=bx.cell 3
 have hbb:b<W0.heap.size:=by omega
 have hgg:w.heap.size<W0.heap.size:=by omega
 have BX:=hid bx
 have HBW:=hid hbw
 clear bx hbw hsw
 go_region_held3 (fun X:World=>X.cell? ⟨b,off+(96+2 * t),none⟩=some (.int .u64 (x:Int))∧X.cell? ⟨b,off+(96+2 * t+1),none⟩=some (.int .u64 (y:Int))∧X.cell? ⟨w.heap.size,3,none⟩=some (.int .i64 (t:Int))) (go_keep)
  (first | (go_at_call 117;refine (HC.out _).mono ?_;rintro e w5 ⟨⟨A1,c1,rfl,hrd,-⟩,hB5⟩;have m0:=(hB5.cell (p:=⟨b,off+(96+2 * t),none⟩) hbb).trans h0;have m1:=(hB5.cell (p:=⟨b,off+(96+2 * t+1),none⟩) hbb).trans h1;have m2:=(hB5.cell (p:=⟨w.heap.size,3,none⟩) hgg).trans b3;have HRD:=hid hrd;have hb5:Below W0.heap.size W0 w5:=(Below.refl W0.heap.size W0).drew.trans hB5;have BX5:=hid (BX.out.up hb5 hgg);have HB5:=hid (HBW.out.trans (hb5.mono HBW.out.size));clear hrd hB5 hb5))
 have hz5:=HB5.out.size
 clear m0 m1 m2 h0 h1 b3
 go_wp2_with fail
 go_loopw [7,31] (fun v i wr=>∃ k:Nat,k≤F.length∧i=.int .i64 k∧wr.ownsRow w5.heap.size 3 1 v (zt0 F (xa:Int) k).length ((zt0 F (xa:Int) k).flatMap zcf)∧Below w5.heap.size w5 wr) (fun _ i _=>F.length - (intOf i).toNat)
 case atStart=>exact ⟨0,Nat.zero_le _,rfl,World.ownsRow_nil _ _ _ _,Below.refl _ _⟩
 case round =>
  obtain ⟨k,hk,rfl,hown,hB⟩:=hrel
  have hz:=hB.size
  by_cases hlt:k<F.length
  · obtain ⟨bF,oF,rfl,hbF,y0⟩:=RdY.at_ (show RdY wr w5.heap.size A1 F from Rd.below HRD.out hB) hlt
    have bxr:=BX5.out.up hB BX5.out.lt
    have p0:=bxr.cell 0
    have hgr:=bxr.lt
    have HSN:=hid (HRS.out k)
    have hml:=HRL.out k
    rw[List.getElem?_eq_getElem hlt] at HSN
    obtain ⟨kd,hkd⟩:∃ kd,F[k]=kd:=⟨_,rfl⟩
    obtain ⟨m,hm2⟩:∃ m,zt0 F (xa:Int) k=m:=⟨_,rfl⟩
    rw[hkd] at y0 HSN
    rw[hm2] at hown HSN hml
    have p0':wr.cell? ⟨w.heap.size,0,none⟩=some (.int .i64 (xa:Int)):=p0
    have hki:(k:Int)<(F.length:Int):=by omega
    have hwk:IntKind.i64.wrap ((xa:Int)+2+(k:Int))=(xa:Int)+2+(k:Int):=IntWalk.i64_in _ (by omega)
    clear hkd hm2 bxr p0
    by_cases hk3:kd=3
    · have e3:((kd:Int) == 3)=true:=by rw[beq_iff_eq];omega
      have e3n:(kd == 3)=true:=by rw[beq_iff_eq];exact hk3
      have HY:=hid (show zt0 F (xa:Int) (k+1)=m++[(xa:Int)+2+(k:Int)] by rw[HSN.out,if_pos (by rw[hk3])])
      clear hk3 HSN
      go_wp2_with (at_builtin;refine wpList_append_own _ rfl _ _ 42 rfl w5.heap.size 3 i0 _ 1 8 Tryz.underlying42 HI.out HZ0.out HZ1.out HZ2.out rfl (by decide) _ _ _ rfl (hown.alloc _) ⟨_,0,none⟩ 1 1 [.int .i64 ((xa:Int)+2+(k:Int))] rfl rfl (zcl _ _ _) (by simp[Value.oneCell']) (by unfold maxLen;omega) (by omega) (by simp;omega) ?_;intro v1 w6 hown1 hg1 _;have hB6:=zaw hB hz hown hg1)
      go_roundw
      case rel=>exact ⟨k+1,by omega,by go_num,by rw[HY.out,List.length_append,zb6];exact hown1,hB6⟩
      case measure=>simp[intOf];omega
    · have e3:((kd:Int) == 3)=false:=by rw[beq_eq_false_iff_ne];omega
      have e3n:(kd == 3)=false:=by rw[beq_eq_false_iff_ne];exact hk3
      have HY:=hid (show zt0 F (xa:Int) (k+1)=m by rw[HSN.out,if_neg (fun h=>hk3 (Option.some.inj h)),List.append_nil])
      clear hk3 HSN
      go_wp2_with fail
      go_roundw
      case rel=>exact ⟨k+1,by omega,by go_num,by rw[HY.out];exact hown,hB⟩
      case measure=>simp[intOf];omega
  · obtain rfl:k=F.length:=by omega
    obtain ⟨A2,c2,rfl,hle,hrd2⟩:=zir hown
    have HRD2:=hid hrd2
    have HLE:=hid hle
    clear hrd2 hown hle
    go_wp2_with fail
    go_ret
    exact ⟨⟨A2,c2,rfl,HRD2.out,HLE.out⟩,HB5.out.trans (hB.mono hz5)⟩
end
end Go.Proofs.YtpcajamacpbjcaaGreat
namespace Go.Proofs.YtpcajamacpbjcaaGreat
open Lib (hid)
open Go.RowKit
theorem zmj {ws:List Nat} (h:zae ws=0) {a:Int} {b:Bk} (ho:zkm (za5 ws 128) a=some b):∃ (m t:Nat) (xs xk:Int) (xm:Bool) (xn:Nat),a=(m:Int)∧b=⟨(m:Int),xs,xk,(t:Int),xm,xn⟩∧t<8∧zep ws m∧m<ws.length ∧
   (zfr ws b).length≤8∧∀ k (hk:k<(zfr ws b).length),∃ r:Nat,(zfr ws b)[k]=(r:Int)∧m≤r∧r<ws.length:=by
 obtain ⟨m,e1,e2,e3⟩:=zH8 h ho
 have ht8:wd ws m / 512 % 128<8:=by
   have h7:=(zbo _).1 (ze4 e3.2.2.2.1)
   have h5:=e3.2.2.2.2.1
   have h6:(zaf (wd ws m)).typ=((wd ws m / 512 % 128:Nat):Int):=rfl
   omega
 have hf:zxs ws b=flds ws m:=by rw[e2];rfl
 refine ⟨m,wd ws m / 512 % 128,(bkAt ws m).size,(bkAt ws m).kind,(bkAt ws m).mark,(bkAt ws m).next,e1,e2,ht8,e3,e3.2.2.1,?_,fun k hk => ?_⟩
 · have h1:=zvt (zxs ws b) b.at_ (zxs ws b).length
   have h2:=zDd ws m
   unfold zfr
   rw[hf] at h1 ⊢
   omega
 · have hm:=List.getElem_mem hk
   unfold zfr at hm
   obtain ⟨i,i1,i2,i3⟩:=zke.1 hm
   rw[hf] at i1
   have hin:=ztw e3 i1
   have hbm:b.at_=(m:Int):=by rw[e2];rfl
   refine ⟨m+2+i,?_,by omega,hin⟩
   have:(zfr ws b)[k]=b.at_+2+(i:Int):=i3
   rw[this,hbm];omega
def RsRes (ws:List Nat) (a:Int) (e:Ending) (w':World):Prop:=∃ A c,e=.returned (.tuple #[.slice A (zb0 ws a).length c,.int .i64 (zn0 ws a)])∧RdI w' w'.heap.size A (zb0 ws a)∧(zb0 ws a).length≤c
set_option maxRecDepth 100000 in
set_option maxHeartbeats 4000000 in
theorem zyf (A:Option Addr) (ws:List Nat) (c n:Nat) (a:Int) (w:World) (hn:ws.length=n) (hm:n≤9223372036854775807) (hr:RdW w w.heap.size A ws) (ho:∀ x ∈ ws,x<18446744073709551616) :
   Calls Tryz.prog 208 #[.slice A n c,.int .i64 a] w fun e w'=>RsRes ws a e w'∧Below w.heap.size w w':=by
 subst hn
 have HR:=hid hr
 have HCK:=hid (zmd A ws c ws.length w rfl hm hr ho)
 have HOB:=hid (fun W (h:RdW W W.heap.size A ws)=>zBi A ws c ws.length a W rfl hm h ho)
 have HO:=hid ho
 clear hr ho
 by_cases h0:zae ws=0
 · rw[h0] at HCK
   cases hob:zkm (za5 ws 128) a with
   | none =>
    have HE:Hid (zn0 ws a=6∧zb0 ws a=[]):=hid (by simp[zn0,zb0,zdt,h0,hob])
    rw[show zxy ws a=zlv by simp[zxy,hob],show zdt ws a=6 by simp[zdt,hob]] at HOB
    unfold zlv Bk.val at HOB
    simp only[Int.cast_ofNat_Int] at HOB
    clear h0 hob
    go_enter Tryz.func208,Tryz.ntmps208
    go_wp2_with fail
    refine HCK.out.mono ?_
    rintro e w1 ⟨rfl,hB1⟩
    have HB1:=hid hB1
    have HR1:=hid (HR.out.up hB1 hB1.size)
    clear hB1
    go_wp2_with fail
    refine (HOB.out _ HR1.out).mono ?_
    rintro e w2 ⟨rfl,hB2⟩
    have hb2:=HB1.out.trans (hB2.mono HB1.out.size)
    go_wp2_with fail
    go_ret2
    exact ⟨⟨none,0,by rw[HE.out.1,HE.out.2];rfl,by rw[HE.out.2];exact Rd.nil_,by rw[HE.out.2];exact Nat.le_refl _⟩,hb2.alloc hb2.size _⟩
   | some b =>
    obtain ⟨m,t,xs,xk,xm,xn,ea,eb,ht8,hobj,hml,-,-⟩:=zmj h0 hob
    subst ea
    have hbd:=zf5 ws (zam h0).1
    have HE:Hid (zn0 ws (m:Int)=0∧zb0 ws (m:Int)=zfr ws b):=hid (by simp[zn0,zb0,zdt,h0,hob])
    rw[show zxy ws (m:Int)=b by simp[zxy,hob],show zdt ws (m:Int)=0 by simp[zdt,hob]] at HOB
    have HRF:=hid (fun W (h:RdW W W.heap.size A ws)=>zur A ws c ws.length t m xs xk xm xn W rfl (by omega) (by omega) ht8 (by omega) h HO.out)
    rw[←eb] at HRF
    obtain ⟨R,hR⟩:∃ R,zfr ws b=R:=⟨_,rfl⟩
    rw[hR] at HRF HE
    rw[eb] at HOB
    unfold Bk.val at HOB
    dsimp only at HOB
    clear h0 hob eb ht8 hobj hml hbd hR
    go_enter Tryz.func208,Tryz.ntmps208
    go_wp2_with fail
    refine HCK.out.mono ?_
    rintro e w1 ⟨rfl,hB1⟩
    have HB1:=hid hB1
    have HR1:=hid (HR.out.up hB1 hB1.size)
    clear hB1
    go_wp2_with fail
    refine (HOB.out _ HR1.out).mono ?_
    rintro e w2 ⟨rfl,hB2⟩
    have hb2:=HB1.out.trans (hB2.mono HB1.out.size)
    have HB2:=hid (hb2.alloc hb2.size (.cells #[.int .i64 (m:Int),.int .i64 xs,.int .i64 xk,.int .i64 (t:Int),.bool xm,.int .u64 (xn:Int)] 55))
    have HR2:=hid (HR.out.up HB2.out HB2.out.size)
    clear hB2 hb2
    go_wp2_with fail
    refine (HRF.out _ HR2.out).mono ?_
    rintro e w3 ⟨⟨A3,c3,rfl,hrd3,hc3⟩,hB3⟩
    have HR3:=hid hrd3
    have HC3:=hid hc3
    have HB3:=hid (HB2.out.trans (hB3.mono HB2.out.size))
    clear hrd3 hc3 hB3
    go_wp2_with fail
    go_ret2
    exact ⟨⟨A3,c3,by rw[HE.out.1,HE.out.2];rfl,by rw[HE.out.2];exact HR3.out,by rw[HE.out.2];exact HC3.out⟩,HB3.out⟩
 · obtain ⟨r,hr⟩:∃ r,zae ws=r:=⟨_,rfl⟩
   have HE:Hid (zn0 ws a=r∧zb0 ws a=[]):=hid ⟨by unfold zn0;rw[if_neg h0,hr],by unfold zb0;rw[if_neg h0]⟩
   rw[hr] at HCK h0
   have hrn:(r != 0)=true:=by rw[bne_iff_ne];exact h0
   clear h0 hr
   go_enter Tryz.func208,Tryz.ntmps208
   go_wp2_with fail
   refine HCK.out.mono ?_
   rintro e w1 ⟨rfl,hB1⟩
   go_wp2_with fail
   go_ret2
   exact ⟨⟨none,0,by rw[HE.out.1,HE.out.2];rfl,by rw[HE.out.2];exact Rd.nil_,by rw[HE.out.2];exact Nat.le_refl _⟩,hB1⟩
theorem zu3 (ws:List Nat):(zeu ws).length≤2048:=by
 unfold zeu
 split
 · exact zEn ws 128 128
 · simp
set_option maxRecDepth 100000 in
set_option maxHeartbeats 8000000 in
theorem ztx (A:Option Addr) (ws:List Nat) (c n:Nat) (a:Int) (w:World) (hn:ws.length=n) (hm:n≤9223372036854775807) (hr:RdW w w.heap.size A ws) (ho:∀ x ∈ ws,x<18446744073709551616) :
   Calls Tryz.prog 209 #[.slice A n c,.int .i64 a] w fun e w'=>zhc w.heap.size (zdw ws a) (zct ws a) e w'∧Below w.heap.size w w':=by
 subst hn
 have HR:=hid hr
 have HRD:=hid (zv6 A ws c ws.length w rfl hm hr ho)
 unfold zLk at HRD
 have HOB:=hid (fun W (h:RdW W W.heap.size A ws)=>zBi A ws c ws.length a W rfl hm h ho)
 have HO:=hid ho
 clear hr ho
 by_cases h0:zc1 ws=0
 · obtain ⟨hp0,-,-⟩:=zd1 h0
   rw[h0] at HRD
   have hml:=zu3 ws
   cases hob:zkm (za5 ws 128) a with
   | none =>
    have HE:=hid (zt9 h0 hob)
    rw[show zxy ws a=zlv by simp[zxy,hob],show zdt ws a=6 by simp[zdt,hob]] at HOB
    unfold zlv Bk.val at HOB
    simp only[Int.cast_ofNat_Int] at HOB
    obtain ⟨q,hq⟩:∃ q,(zeu ws).length=q:=⟨_,rfl⟩
    rw[hq] at HRD
    clear h0 hob hq hml
    go_enter Tryz.func209,Tryz.ntmps209
    go_wp2_with fail
    refine HRD.out.mono ?_
    rintro e w1 ⟨⟨A1,c1,rfl,-,-⟩,hB1⟩
    have HB1:=hid hB1
    have HR1:=hid (HR.out.up hB1 hB1.size)
    clear hB1
    go_wp2_with fail
    refine (HOB.out _ HR1.out).mono ?_
    rintro e w2 ⟨rfl,hB2⟩
    have hb2:=HB1.out.trans (hB2.mono HB1.out.size)
    go_wp2_with fail
    go_ret2
    exact ⟨zbv HE.out.1 HE.out.2,hb2.alloc hb2.size _⟩
   | some b =>
    obtain ⟨m,t,xs,xk,xm,xn,ea,eb,ht8,hobj,hmlt,hR8,hRin⟩:=zmj hp0 hob
    subst ea
    have hbd:=zf5 ws (zam hp0).1
    rw[show zxy ws (m:Int)=b by simp[zxy,hob],show zdt ws (m:Int)=0 by simp[zdt,hob]] at HOB
    have hbm:b.mark=xm:=by rw[eb]
    cases hxm:xm with
    | false =>
     have HE:=hid (zt8 h0 hob (by rw[hbm,hxm]))
     rw[eb,hxm] at HOB
     unfold Bk.val at HOB
     dsimp only at HOB
     obtain ⟨q,hq⟩:∃ q,(zeu ws).length=q:=⟨_,rfl⟩
     rw[hq] at HRD
     clear h0 hob eb ht8 hobj hmlt hbd hR8 hRin hq hml hbm hxm
     go_enter Tryz.func209,Tryz.ntmps209
     go_wp2_with fail
     refine HRD.out.mono ?_
     rintro e w1 ⟨⟨A1,c1,rfl,-,-⟩,hB1⟩
     have HB1:=hid hB1
     have HR1:=hid (HR.out.up hB1 hB1.size)
     clear hB1
     go_wp2_with fail
     refine (HOB.out _ HR1.out).mono ?_
     rintro e w2 ⟨rfl,hB2⟩
     have hb2:=HB1.out.trans (hB2.mono HB1.out.size)
     go_wp2_with fail
     go_ret2
     exact ⟨zbv HE.out.1 HE.out.2,hb2.alloc hb2.size _⟩
    | true =>
     subst hxm
     have HRF:=hid (fun W (h:RdW W W.heap.size A ws)=>zur A ws c ws.length t m xs xk true xn W rfl (by omega) (by omega) ht8 (by omega) h HO.out)
     rw[←eb] at HRF
     have HBD:=hid (fun h3=>zCw h0 hob hbm h3)
     have HOK:=hid (fun o h3=>zDj h0 hob hbm (o:=o) h3)
     have HTO:=hid (fun x y h=>zGw h0 (a:=x) (t:=y) h)
     have HFC:=hid (fun A1 c1 (v:Nat) W (hv:v<18446744073709551616) (h:RdM W W.heap.size A1 (zeu ws))=>zEd A1 (zeu ws) c1 (zeu ws).length v W rfl (by omega) hv h)
     have HFO:Hid (∀ v t,zf0 (zeu ws) v=some t→ze2 (zeu ws) (v:Int)=some t):=hid fun v t h=>by
      unfold zf0 at h
      split at h
      · cases h
      · exact h
     have HSTP:Hid (∀ r,zfk ws (zeu ws) r=if wd ws r=0 then some [] else match zf0 (zeu ws) (wd ws r) with
      | none=>none
      | some t=>if (wd ws r:Int)=t then some [] else some [⟨(r:Int),t.toNat⟩]):=hid fun r=>rfl
     have HTK:=hid (fun k (hk:k<(zfr ws b).length) o h=>zks (ws:=ws) (m:=zeu ws) hk (o:=o) h)
     have HTB:=hid (fun k (hk:k<(zfr ws b).length) o h h2=>zBa (ws:=ws) (m:=zeu ws) hk (o:=o) h h2)
     have HLE:=hid (fun k o (h:zdh ws (zeu ws) ((zfr ws b).take k)=some o)=>zse h)
     obtain ⟨R,hR⟩:∃ R,zfr ws b=R:=⟨_,rfl⟩
     rw[hR] at HRF HBD HOK HTK HTB HLE hR8
     have HRI:Hid (∀ k (hk:k<R.length),∃ r:Nat,R[k]=(r:Int)∧m≤r∧r<ws.length):=hid (by subst hR;exact hRin)
     obtain ⟨M,hM⟩:∃ M,zeu ws=M:=⟨_,rfl⟩
     rw[hM] at HRD HBD HOK HTO HFC HFO HSTP HTK HTB HLE hml
     rw[eb] at HOB
     unfold Bk.val at HOB
     dsimp only at HOB
     have hlen:=hbd.2.1
     obtain ⟨i0,hi,hz0,hz1,hz2⟩:=info_parts zdn
     have HI:=hid hi
     have HZ0:=hid hz0
     have HZ1:=hid hz1
     have HZ2:=hid hz2
     clear hi hz0 hz1 hz2
     clear h0 hob eb ht8 hobj hmlt hbd hR hRin hM hbm
     go_enter Tryz.func209,Tryz.ntmps209
     go_wp2_with fail
     refine HRD.out.mono ?_
     rintro e w1 ⟨⟨A1,c1,rfl,hrm,-⟩,hB1⟩
     have HB1:=hid hB1
     have HR1:=hid (HR.out.up hB1 hB1.size)
     have HM1:=hid hrm
     clear hB1 hrm
     go_wp2_with fail
     refine (HOB.out _ HR1.out).mono ?_
     rintro e w2 ⟨rfl,hB2⟩
     have hb2:=HB1.out.trans (hB2.mono HB1.out.size)
     have HB2:=hid (hb2.alloc hb2.size (.cells #[.int .i64 (m:Int),.int .i64 xs,.int .i64 xk,.int .i64 (t:Int),.bool true,.int .u64 (xn:Int)] 55))
     have HR2:=hid (HR.out.up HB2.out HB2.out.size)
     have HM2:=hid (Rd.more (Rd.alloc (HM1.out.up hB2 hB2.size) (Nat.le_refl _) (.cells #[.int .i64 (m:Int),.int .i64 xs,.int .i64 xk,.int .i64 (t:Int),.bool true,.int .u64 (xn:Int)] 55)) (show w2.heap.size≤(w2.alloc (.cells #[.int .i64 (m:Int),.int .i64 xs,.int .i64 xk,.int .i64 (t:Int),.bool true,.int .u64 (xn:Int)] 55)).heap.size by simp))
     clear hB2 hb2
     go_wp2_with fail
     refine (HRF.out _ HR2.out).mono ?_
     rintro e w3 ⟨⟨A3,c3,rfl,hrd3,-⟩,hB3⟩
     have HR3:=hid hrd3
     have HB3:=hid (HB2.out.trans (hB3.mono HB2.out.size))
     have HM3:=hid (HM2.out.up hB3 hB3.size)
     have HW3:=hid (HR.out.up HB3.out HB3.out.size)
     have hz3:=HB3.out.size
     clear hrd3 hB3
     go_wp2_with fail
     go_loopw [10,42] (fun v i wr=>∃ (k:Nat) (o:List En),k≤R.length∧i=.int .i64 k∧Hid (zdh ws M (R.take k)=some o)∧wr.ownsRow w3.heap.size 89 2 v o.length (o.flatMap En.cells)∧Below w3.heap.size w3 wr) (fun _ i _=>R.length - (intOf i).toNat)
     case atStart=>exact ⟨0,[],Nat.zero_le _,rfl,rfl,World.ownsRow_nil _ _ _ _,Below.refl _ _⟩
     case round =>
      obtain ⟨k,o,hk,rfl,HFX,hown,hB⟩:=hrel
      have hz:=hB.size
      have hol:=HLE.out k o HFX.out
      rw[List.length_take] at hol
      by_cases hlt:k<R.length
      · obtain ⟨bR,oR,rfl,hbR,q0⟩:=RdI.at_ (Rd.below HR3.out hB) hlt
        obtain ⟨r,hr,hmr,hrl⟩:=HRI.out k hlt
        obtain ⟨bW,oW,rfl,hbW,x0⟩:=RdW.at_ (Rd.below HW3.out hB) hrl
        rw[←zcb] at x0
        have HMr:=hid (HM3.out.up hB hz)
        have hv:=ze6 HO.out r
        have HTKk:=hid (HTK.out k hlt o HFX.out)
        have HTBk:=hid (HTB.out k hlt o HFX.out)
        have HST:=hid (HSTP.out r)
        rw[hr] at q0 HTKk HTBk
        rw[Int.toNat_natCast] at HTKk HTBk
        have hFv:=HFO.out (wd ws r)
        obtain ⟨v,hvv⟩:∃ v,wd ws r=v:=⟨_,rfl⟩
        rw[hvv] at x0 hv HST hFv
        have hri:(r:Int)<(ws.length:Int):=by omega
        have hr0:(0:Int)≤(r:Int):=by omega
        have hki:(k:Int)<(R.length:Int):=by omega
        have HVV:=hid hv
        have HFV:=hid hFv
        clear hr hvv hv hFv
        by_cases hv0:v=0
        · have e0:((v:Int) == 0)=true:=by rw[beq_iff_eq];omega
          have e0n:(v == 0)=true:=by rw[beq_iff_eq];exact hv0
          have HY:=hid (show zdh ws M (R.take (k+1))=some o by rw[HTKk.out,HST.out,if_pos hv0];simp)
          clear hv0 HTKk HTBk HST
          go_wp2_with fail
          go_roundw
          case rel=>exact ⟨k+1,o,by omega,by go_num,HY.out,hown,hB⟩
          case measure=>simp[intOf];omega
        · have e0:((v:Int) == 0)=false:=by rw[beq_eq_false_iff_ne];omega
          have e0n:(v == 0)=false:=by rw[beq_eq_false_iff_ne];exact hv0
          rw[if_neg hv0] at HST
          have HFK:=hid (HFC.out A1 c1 v _ HVV.out HMr.out)
          cases hfx:zf0 M v with
          | none =>
           rw[hfx] at HFK HST
           have HE:=hid (HBD.out (HTBk.out HST.out))
           simp only[Option.getD_none,Option.isSome_none] at HFK
           clear hv0 HTKk HTBk HST hfx
           go_wp2_with fail
           refine HFK.out.mono ?_
           rintro e w5 ⟨rfl,hB5⟩
           go_wp2_with fail
           go_ret2
           exact ⟨zbv HE.out.1 HE.out.2,HB3.out.trans ((hB.trans (hB5.mono hz)).mono hz3)⟩
          | some tt =>
           obtain ⟨tn,rfl,ht1,-,ht2,-⟩:=HTO.out (v:Int) tt (HFV.out tt hfx)
           rw[hfx] at HFK HST
           simp only[Option.getD_some,Option.isSome_some] at HFK
           have hwt:IntKind.u64.wrap (tn:Int)=(tn:Int):=IntWalk.u64_in _ (by omega)
           by_cases hvt:v=tn
           · have en:((v:Int) != (tn:Int))=false:=by rw[bne_eq_false_iff_eq];omega
             have enn:(v != tn)=false:=by rw[bne_eq_false_iff_eq];exact hvt
             have HY:=hid (show zdh ws M (R.take (k+1))=some o by rw[HTKk.out,HST.out];simp[hvt])
             clear hv0 HTKk HTBk HST hfx hvt
             go_wp2_with fail
             refine HFK.out.mono ?_
             rintro e w5 ⟨rfl,hB5⟩
             have x5:=(hB5.cell (p:=⟨bW,oW+r,none⟩) (by show bW<wr.heap.size;omega)).trans x0
             have hown5:=hid (zak hown hB5 (Nat.le_refl _))
             have hb5:=hid (hB.trans (hB5.mono hz))
             clear hB5
             go_wp2_with fail
             go_roundw
             case rel=>exact ⟨k+1,o,by omega,by go_num,HY.out,hown5.out,hb5.out⟩
             case measure=>simp[intOf];omega
           · have en:((v:Int) != (tn:Int))=true:=by rw[bne_iff_ne];omega
             have enn:(v != tn)=true:=by rw[bne_iff_ne];exact hvt
             have HY:=hid (show zdh ws M (R.take (k+1))=some (o++[⟨(r:Int),tn⟩]) by
              rw[HTKk.out,HST.out]
              have:¬ ((v:Int)=(tn:Int)):=by omega
              simp[this])
             clear hv0 HTKk HTBk HST hfx hvt
             go_wp2_with fail
             refine HFK.out.mono ?_
             rintro e w5 ⟨rfl,hB5⟩
             have x5:=(hB5.cell (p:=⟨bW,oW+r,none⟩) (by show bW<wr.heap.size;omega)).trans x0
             have hown5:=zak hown hB5 (Nat.le_refl _)
             have hb5:=hB.trans (hB5.mono hz)
             have hz5:=hb5.size
             clear hB5
             go_wp2_with (at_builtin;refine wpList_append_own _ rfl _ _ 26 rfl w3.heap.size 89 i0 _ 2 16 Tryz.underlying26 HI.out HZ0.out HZ1.out HZ2.out rfl (by decide) _ _ _ rfl (hown5.alloc _) ⟨_,0,none⟩ 1 1 [.int .i64 (r:Int),.int .u64 (tn:Int)] rfl rfl (zcl _ _ _) (by simp[Value.oneCell']) (by unfold maxLen;omega) (by omega) (by simp;omega) ?_;intro v1 w6 hown1 hg1 _;have hB6:=zaw hb5 hz5 hown5 hg1)
             go_roundw
             case rel=>exact ⟨k+1,o++[(⟨(r:Int),tn⟩:En)],by omega,by go_num,HY.out,by rw[List.length_append,zb6];exact hown1,hB6⟩
             case measure=>simp[intOf];omega
      · obtain rfl:k=R.length:=by omega
        have HV:=hid (HOK.out o (by have:=HFX.out;rwa [List.take_of_length_le (Nat.le_refl _)] at this))
        obtain ⟨A2,c2,rfl⟩:=zbb hown
        have HOW2:=hid (zbf hown hz3)
        clear hown
        go_wp2_with fail
        go_ret2
        exact ⟨⟨A2,c2,by rw[HV.out.1,HV.out.2];rfl,by rw[HV.out.2];exact HOW2.out⟩,HB3.out.trans (hB.mono hz3)⟩
 · obtain ⟨r,hr⟩:∃ r,zc1 ws=r:=⟨_,rfl⟩
   have HE:=hid (zBe (a:=a) hr (by rw[←hr];exact h0))
   rw[hr] at HRD h0
   have hrn:(r != 0)=true:=by rw[bne_iff_ne];exact h0
   obtain ⟨q,hq⟩:∃ q,(zeu ws).length=q:=⟨_,rfl⟩
   rw[hq] at HRD
   clear h0 hr hq
   go_enter Tryz.func209,Tryz.ntmps209
   go_wp2_with fail
   refine HRD.out.mono ?_
   rintro e w1 ⟨⟨A1,c1,rfl,-,-⟩,hB1⟩
   go_wp2_with fail
   go_ret2
   exact ⟨zbv HE.out.1 HE.out.2,hB1⟩
end Go.Proofs.YtpcajamacpbjcaaGreat
namespace Go.Proofs.YtpcajamacpbjcaaGreat
open Lib (hid)
open Go.RowKit
theorem zpn {ws:List Nat} {r:Int} (h1:zey ws=r) (h0:r≠0):zec ws=[]:=by unfold zec;rw[if_neg (by rw[h1];exact h0)]
theorem fs_err {ws:List Nat} {r:Int} (h:zc1 ws=r) (h0:r≠0):zey ws=r:=by subst h;simp[zey,h0]
theorem fs_sl {ws:List Nat} (h:zc1 ws=0) (h1:slsOk ws=false):zey ws=50:=by simp[zey,h,h1]
theorem zHz {ws:List Nat} (h:zc1 ws=0) (h1:slsOk ws=true) (h2:zen ws (zeu ws) 16=none):zey ws=50:=by simp[zey,h,h1,h2]
theorem zK6 {ws:List Nat} (h:zc1 ws=0) (h1:slsOk ws=true) {o:List En} (h2:zen ws (zeu ws) 16=some o):zey ws=0∧zec ws=o:=by simp[zec,zey,h,h1,h2]
theorem zyy {ws:List Nat} {m:List (Int × Int)} {k:Nat} {o:List En} (h:zen ws m k=some o):zen ws m (k+1)=(zig ws m k).map (o ++ ·):=by
 simp only[zen,h]
theorem zc6 {w:World} {H n:Nat} {e:TypeId} {sz:Nat} {v:Value} {xs:List Value} (h:w.ownsRow H e sz v n xs) {p:Addr} (hp:v.ownBlock≠some p.block) (u:Value):(w.setCell p u).ownsRow H e sz v n xs:=by
 refine ⟨h.1,?_⟩
 rcases h.2 with h1|⟨g',cap,cur,h1,h2,h3,h4⟩
 · exact .inl h1
 · subst h1
   refine .inr ⟨g',cap,cur,rfl,h2,?_,h4⟩
   exact (Below.heap_setCell w p u g' (fun e=>hp (by simp[Value.ownBlock,e]))).trans h3
theorem zCu {g a:Nat} (hg:g<2147483648) (ha:a<4294967296) (u:Bool):zn1 ⟨(g:Int),u,(a:Int)⟩<18446744073709551616:=by
 unfold zn1
 dsimp only
 rw[Int.toNat_natCast,Int.toNat_natCast]
 split <;> omega
set_option maxRecDepth 100000 in
set_option maxHeartbeats 8000000 in
theorem zwg (A:Option Addr) (ws:List Nat) (c n:Nat) (w:World) (hn:ws.length=n) (hm:n≤9223372036854775807) (hr:RdW w w.heap.size A ws) (ho:∀ x ∈ ws,x<18446744073709551616) :
   Calls Tryz.prog 207 #[.slice A n c] w fun e w'=>zhc w.heap.size (zey ws) (zec ws) e w'∧Below w.heap.size w w':=by
 subst hn
 have HR:=hid hr
 have HRD:=hid (zv6 A ws c ws.length w rfl hm hr ho)
 unfold zLk at HRD
 have HHA:=hid (fun W (h:RdW W W.heap.size A ws)=>zwa A ws c ws.length W rfl hm h ho)
 unfold zHh at HHA
 have HO:=hid ho
 clear hr ho
 by_cases h0:zc1 ws=0
 · obtain ⟨hp0,-,-⟩:=zd1 h0
   have hs:=(zam hp0).1
   have hbd:=zf5 ws hs
   rw[h0] at HRD
   have hml:=zu3 ws
   cases hso:slsOk ws with
   | false =>
    have he:=zk0 hs hso
    have hq:zer ws=[]:=by simp[zer,he]
    rw[he,hq] at HHA
    have HE:=hid (fs_sl h0 hso)
    obtain ⟨q,hq⟩:∃ q,(zeu ws).length=q:=⟨_,rfl⟩
    rw[hq] at HRD
    clear h0 hp0 hs hbd hso he hq hml
    go_enter Tryz.func207,Tryz.ntmps207
    go_wp2_with fail
    refine HRD.out.mono ?_
    rintro e w1 ⟨⟨A1,c1,rfl,-,-⟩,hB1⟩
    have HB1:=hid hB1
    have HR1:=hid (HR.out.up hB1 hB1.size)
    clear hB1
    go_wp2_with fail
    refine (HHA.out _ HR1.out).mono ?_
    rintro e w2 ⟨⟨A2,c2,rfl,-,-⟩,hB2⟩
    go_wp2_with fail
    go_ret2
    exact ⟨zbv HE.out (zpn HE.out (by omega)),HB1.out.trans (hB2.mono HB1.out.size)⟩
   | true =>
    obtain ⟨g1,g2⟩:=zf3 hs hso
    rw[g1,g2,zcy] at HHA
    have HSO:=hid ((zb9 ws).1 hso)
    have HBD:=hid (fun h=>zHz h0 hso h)
    have HOK:=hid (fun o h=>zK6 h0 hso (o:=o) h)
    have HTO:=hid (fun x y h=>zGw h0 (a:=x) (t:=y) h)
    have HFC:=hid (fun A1 c1 (v:Nat) W (hv:v<18446744073709551616) (h:RdM W W.heap.size A1 (zeu ws))=>zEd A1 (zeu ws) c1 (zeu ws).length v W rfl (by omega) hv h)
    have HFO:Hid (∀ v t,zf0 (zeu ws) v=some t→ze2 (zeu ws) (v:Int)=some t):=hid fun v t h=>by
     unfold zf0 at h
     split at h
     · cases h
     · exact h
    have HSTP:Hid (∀ i,zig ws (zeu ws) i=if (slAt ws i).used=true then (match zf0 (zeu ws) (slAt ws i).at_.toNat with
     | none=>none
     | some t=>if wd ws (112+i)=zn1 ⟨(slAt ws i).gen,true,t⟩ then some [] else some [⟨((112+i:Nat):Int),zn1 ⟨(slAt ws i).gen,true,t⟩⟩]) else some []):=hid fun i=>rfl
    have HTK:=hid (fun k o (h:zen ws (zeu ws) k=some o)=>zyy h)
    have HTN:=hid (fun k (h:zen ws (zeu ws) (k+1)=none) (h2:k+1≤16)=>zyp h h2)
    have HLE:=hid (fun k o (h:zen ws (zeu ws) k=some o)=>zsb h)
    obtain ⟨M,hM⟩:∃ M,zeu ws=M:=⟨_,rfl⟩
    rw[hM] at HRD HBD HOK HTO HFC HFO HSTP HTK HTN HLE hml
    have hlen:=hbd.1
    have hlen2:=hbd.2.1
    obtain ⟨i0,hi,hz0,hz1,hz2⟩:=info_parts zdn
    have HI:=hid hi
    have HZ0:=hid hz0
    have HZ1:=hid hz1
    have HZ2:=hid hz2
    clear hi hz0 hz1 hz2
    clear h0 hp0 hs hbd hso g1 g2 hM
    go_enter Tryz.func207,Tryz.ntmps207
    go_wp2_with fail
    refine HRD.out.mono ?_
    rintro e w1 ⟨⟨A1,c1,rfl,hrm,-⟩,hB1⟩
    have HB1:=hid hB1
    have HR1:=hid (HR.out.up hB1 hB1.size)
    have HM1:=hid hrm
    clear hB1 hrm
    go_wp2_with fail
    refine (HHA.out _ HR1.out).mono ?_
    rintro e w3 ⟨⟨A3,c3,rfl,hrs,-⟩,hB3⟩
    have HB3:=hid (HB1.out.trans (hB3.mono HB1.out.size))
    have HS3:=hid hrs
    have HM3:=hid (HM1.out.up hB3 hB3.size)
    have HW3:=hid (HR.out.up HB3.out HB3.out.size)
    have hz3:=HB3.out.size
    clear hrs hB3
    go_wp2_with fail
    go_loopw [8,36] (fun v i wr=>∃ (k:Nat) (o:List En),k≤16∧i=.int .i64 k∧Hid (zen ws M k=some o)∧wr.ownsRow w3.heap.size 89 2 v o.length (o.flatMap En.cells)∧Below w3.heap.size w3 wr) (fun _ i _=>16 - (intOf i).toNat)
    case atStart=>exact ⟨0,[],Nat.zero_le _,rfl,rfl,World.ownsRow_nil _ _ _ _,Below.refl _ _⟩
    case round =>
     obtain ⟨k,o,hk,rfl,HFX,hown,hB⟩:=hrel
     have hz:=hB.size
     have hol:=HLE.out k o HFX.out
     by_cases hlt:k<16
     · obtain ⟨bS,oS,rfl,hbS,q0,q1,q2⟩:=RdS.at_ (Rd.below HS3.out hB) (show k<(slL ws).length by rw[zcy];exact hlt)
       rw[zjh] at q0 q1 q2
       obtain ⟨bW,oW,rfl,hbW,x0⟩:=RdW.at_ (Rd.below HW3.out hB) (show 112+k<ws.length by omega)
       rw[←zcb] at x0
       have HMr:=hid (HM3.out.up hB hz)
       have hsk:=HSO.out k hlt
       have HTKk:=hid (HTK.out k o HFX.out)
       have HTNk:=hid (fun h=>HTN.out k h (by omega))
       have HST:=hid (HSTP.out k)
       obtain ⟨r1,r2,r3,r4⟩:=ze8 (wd ws (112+k))
       have hsa:slAt ws k=zdj (wd ws (112+k)):=rfl
       rw[←hsa] at r1 r2 r3 r4
       have hxl:=ze6 HO.out (112+k)
       obtain ⟨x,hx⟩:∃ x,wd ws (112+k)=x:=⟨_,rfl⟩
       rw[hx] at x0 HST hxl
       obtain ⟨s,hs⟩:∃ s,slAt ws k=s:=⟨_,rfl⟩
       rw[hs] at q0 q1 q2 HST r1 r2 r3 r4 hsk
       obtain ⟨sg,su,sa⟩:=s
       dsimp only at q0 q1 q2 HST r1 r2 r3 r4
       obtain ⟨g,rfl⟩:=Int.eq_ofNat_of_zero_le r1
       obtain ⟨u,rfl⟩:=Int.eq_ofNat_of_zero_le r3
       rw[Int.toNat_natCast] at HST
       have hki:(k:Int)<16:=by omega
       have hk0:(0:Int)≤(k:Int):=by omega
       have hw1:IntKind.i64.wrap (112+(k:Int))=112+(k:Int):=IntWalk.i64_in _ (by omega)
       have i1:(0:Int)≤112+(k:Int):=by omega
       have i2:(112:Int)+(k:Int)<(ws.length:Int):=by omega
       have n1:((112:Int)+(k:Int)).toNat=112+k:=by omega
       have hg31:g<2147483648:=by omega
       have HSL:=hid hsk
       clear hx hs hsa r1 r2 r3 r4 hsk hxl
       cases su
       · have HY:=hid (show zen ws M (k+1)=some o by rw[HTKk.out,HST.out,if_neg (by simp)];simp)
         clear HTKk HTNk HST
         go_wp2_with fail
         go_roundw
         case rel=>exact ⟨k+1,o,by omega,by go_num,HY.out,hown.alloc _,hB.alloc hz _⟩
         case measure=>simp[intOf];omega
       · obtain ⟨hg0,hu1,hu2⟩:=zto HSL.out rfl
         dsimp only at hg0 hu1 hu2
         rw[if_pos rfl] at HST
         have hwu:IntKind.u64.wrap (u:Int)=(u:Int):=IntWalk.u64_in _ (by omega)
         have hbn:=hB.alloc hz (.cells #[.int .i64 (g:Int),.bool true,.int .i64 (u:Int)] 52)
         have HBN:=hid hbn
         have HMn:=hid (Rd.more (Rd.alloc HMr.out (Nat.le_refl _) (.cells #[.int .i64 (g:Int),.bool true,.int .i64 (u:Int)] 52)) (show wr.heap.size≤(wr.alloc (.cells #[.int .i64 (g:Int),.bool true,.int .i64 (u:Int)] 52)).heap.size by simp))
         have BN:=hid (Bx.new wr 52 #[.int .i64 (g:Int),.bool true,.int .i64 (u:Int)])
         have HOWN:=hid (hown.alloc (.cells #[.int .i64 (g:Int),.bool true,.int .i64 (u:Int)] 52))
         have HOL:=hid (fun b h=>(hown.lt b h).2)
         have x1:=(World.cell?_alloc_lt wr (.cells #[.int .i64 (g:Int),.bool true,.int .i64 (u:Int)] 52) ⟨bW,oW+(112+k),none⟩ (by show bW<wr.heap.size;omega)).trans x0
         have HX1:=hid x1
         have HFK:=hid (HFC.out A1 c1 u _ (by omega) HMn.out)
         have hsz1:(wr.alloc (.cells #[.int .i64 (g:Int),.bool true,.int .i64 (u:Int)] 52)).heap.size=wr.heap.size+1:=by simp
         clear hbn x1
         go_upto_region 14 with (fail)
         obtain ⟨wn,hwn⟩:∃ wn,wr.alloc (.cells #[.int .i64 (g:Int),.bool true,.int .i64 (u:Int)] 52)=wn:=⟨_,rfl⟩
         rw[hwn] at HBN HMn BN HOWN HFK HX1 hsz1 ⊢
         clear hwn x0 hown
         obtain ⟨p0,p1,p2,f0,f1,f2,hgn⟩:=BN.out.c3
         cases hfx:zf0 M u with
         | none =>
          rw[hfx] at HFK HST
          have HE:=hid (HBD.out (HTNk.out (by rw[HTKk.out,HST.out];rfl)))
          simp only[Option.getD_none,Option.isSome_none] at HFK
          clear HTKk HTNk HST hfx
          go_wp2_with fail
          refine HFK.out.mono ?_
          rintro e w5 ⟨rfl,hB5⟩
          have hb5:=HBN.out.trans (hB5.mono HBN.out.size)
          go_wp2_with fail
          go_ret2
          exact ⟨zbv HE.out (zpn HE.out (by omega)),HB3.out.trans (hb5.mono hz3)⟩
         | some tt =>
          obtain ⟨tn,rfl,ht1,-,ht2,-⟩:=HTO.out (u:Int) tt (HFO.out u tt hfx)
          rw[hfx] at HFK HST
          simp only[Option.getD_some,Option.isSome_some] at HFK
          have hok:znd ⟨(g:Int),true,(tn:Int)⟩=true:=by
            unfold znd
            rw[if_pos rfl]
            simp only[Bool.and_eq_true,decide_eq_true_eq]
            omega
          have HWD:=hid (fun W=>zKc g tn true W hg31 (by omega) hok)
          have hVl:=zCu (g:=g) (a:=tn) hg31 (by omega) true
          obtain ⟨V,hV⟩:∃ V,zn1 ⟨(g:Int),true,(tn:Int)⟩=V:=⟨_,rfl⟩
          dsimp only at HST
          rw[hV] at HWD HST
          clear hok hV hVl hfx
          go_wp2_with fail
          refine HFK.out.mono ?_
          rintro e w5 ⟨rfl,hB5⟩
          have bn5:=BN.out.up hB5 hgn
          have BN5:=hid bn5
          have HB5:=hid (HBN.out.trans (hB5.mono HBN.out.size))
          have HO5:=hid (zak HOWN.out hB5 (Nat.le_refl _))
          have x5:=(hB5.cell (p:=⟨bW,oW+(112+k),none⟩) (by show bW<wn.heap.size;omega)).trans HX1.out
          have HX5:=hid x5
          obtain ⟨p0,p1,p2,f0,f1,f2,hg5⟩:=bn5.c3
          clear hB5 bn5 x5
          go_wp2_with fail
          have HB6:=hid (HB5.out.setCell (p:=⟨wr.heap.size,2,none⟩) hz (.int .i64 (tn:Int)))
          have HO6:=hid (zc6 HO5.out (p:=⟨wr.heap.size,2,none⟩) (fun h=>by have h9:=HOL.out _ h;exact absurd h9 (Nat.lt_irrefl _)) (.int .i64 (tn:Int)))
          have x6:(w5.setCell ⟨wr.heap.size,2,none⟩ (.int .i64 (tn:Int))).cell? ⟨bW,oW+(112+k),none⟩=some (.int .u64 (x:Int)):=(World.cell?_setCell_other w5 _ _ _ (fun e2=>by injection e2 with e3 _ _;omega)).trans HX5.out
          have HX6:=hid x6
          have hbs:bW<(w5.setCell ⟨wr.heap.size,2,none⟩ (.int .i64 (tn:Int))).heap.size:=by rw[World.size_setCell];have:=HB5.out.size;omega
          clear x6
          refine (HWD.out _).mono ?_
          rintro e w7 ⟨rfl,hB7⟩
          have x7:=(hB7.cell (p:=⟨bW,oW+(112+k),none⟩) hbs).trans HX6.out
          have hown7:=zak HO6.out hB7 (Nat.le_refl _)
          have hb7:=HB6.out.trans (hB7.mono HB6.out.size)
          have hz7:=hb7.size
          clear hB7 hbs
          by_cases hxV:x=V
          · have en:((x:Int) != (V:Int))=false:=by rw[bne_eq_false_iff_eq];omega
            have enn:(x != V)=false:=by rw[bne_eq_false_iff_eq];exact hxV
            have HY:=hid (show zen ws M (k+1)=some o by rw[HTKk.out,HST.out];simp[hxV])
            have HO7:=hid hown7
            have HB7:=hid hb7
            clear HTKk HTNk HST hxV hown7 hb7
            go_wp2_with fail
            go_roundw
            case rel=>exact ⟨k+1,o,by omega,by go_num,HY.out,HO7.out,HB7.out⟩
            case measure=>simp[intOf];omega
          · have en:((x:Int) != (V:Int))=true:=by rw[bne_iff_ne];omega
            have enn:(x != V)=true:=by rw[bne_iff_ne];exact hxV
            have HY:=hid (show zen ws M (k+1)=some (o++[⟨112+(k:Int),V⟩]) by rw[HTKk.out,HST.out];simp[hxV])
            clear HTKk HTNk HST hxV
            go_wp2_with (at_builtin;refine wpList_append_own _ rfl _ _ 26 rfl w3.heap.size 89 i0 _ 2 16 Tryz.underlying26 HI.out HZ0.out HZ1.out HZ2.out rfl (by decide) _ _ _ rfl (hown7.alloc _) ⟨_,0,none⟩ 1 1 [.int .i64 (112+(k:Int)),.int .u64 (V:Int)] rfl rfl (zcl _ _ _) (by simp[Value.oneCell']) (by unfold maxLen;omega) (by omega) (by simp;omega) ?_;intro v1 w8 hown1 hg1 _;have hB8:=zaw hb7 hz7 hown7 hg1)
            go_roundw
            case rel=>exact ⟨k+1,o++[(⟨112+(k:Int),V⟩:En)],by omega,by go_num,HY.out,by rw[List.length_append,zb6];exact hown1,hB8⟩
            case measure=>simp[intOf];omega
     · obtain rfl:k=16:=by omega
       have HV:=hid (HOK.out o HFX.out)
       obtain ⟨A2,c2,rfl⟩:=zbb hown
       have HOW2:=hid (zbf hown hz3)
       clear hown
       go_wp2_with fail
       go_ret2
       exact ⟨⟨A2,c2,by rw[HV.out.1,HV.out.2];rfl,by rw[HV.out.2];exact HOW2.out⟩,HB3.out.trans (hB.mono hz3)⟩
 · obtain ⟨r,hr⟩:∃ r,zc1 ws=r:=⟨_,rfl⟩
   have HE:=hid (fs_err hr (by rw[←hr];exact h0))
   rw[hr] at HRD h0
   have hrn:(r != 0)=true:=by rw[bne_iff_ne];exact h0
   have HR0:=hid h0
   obtain ⟨q,hq⟩:∃ q,(zeu ws).length=q:=⟨_,rfl⟩
   rw[hq] at HRD
   clear h0 hr hq
   go_enter Tryz.func207,Tryz.ntmps207
   go_wp2_with fail
   refine HRD.out.mono ?_
   rintro e w1 ⟨⟨A1,c1,rfl,-,-⟩,hB1⟩
   go_wp2_with fail
   go_ret2
   exact ⟨zbv HE.out (zpn HE.out HR0.out),hB1⟩
end Go.Proofs.YtpcajamacpbjcaaGreat
namespace Go.Proofs.YtpcajamacpbjcaaGreat
open Lib (hid)
theorem zHa {g a:Nat} (hg:g<2147483648) (ha:a<4294967296):zdj (zn1 ⟨(g:Int),true,(a:Int)⟩)=⟨(g:Int),true,(a:Int)⟩:=by
 unfold zn1 zdj
 dsimp only
 rw[Int.toNat_natCast,Int.toNat_natCast,if_pos rfl]
 have h1:(a+g * 4294967296+9223372036854775808) / 4294967296 % 2147483648=g:=by omega
 have h2:(a+g * 4294967296+9223372036854775808) / 9223372036854775808=1:=by omega
 have h3:(a+g * 4294967296+9223372036854775808) % 4294967296=a:=by omega
 rw[h1,h2,h3]
 rfl
def nwS (ws:List Nat) (M:List (Int × Int)) (i:Nat):Sl:=if (slAt ws i).used=true then ⟨(slAt ws i).gen,true,(ze2 M (slAt ws i).at_).getD 0⟩ else slAt ws i
theorem zA2 {ws:List Nat} {j v:Nat} (h:j<ws.length) (i:Nat):wd (zag ws [⟨(j:Int),v⟩]) i=if i=j then v else wd ws i:=by
 simp only[zag]
 rw[if_pos (by omega),Int.toNat_natCast]
 unfold wd
 rw[List.getElem?_set]
 by_cases e:j=i
 · subst e;simp[h]
 · rw[if_neg e,if_neg (fun h=>e h.symm)]
theorem zA0 {ws:List Nat} {M:List (Int × Int)} (hw:256≤ws.length) (hM:∀ a t,ze2 M a=some t→∃ n:Nat,t=(n:Int)∧n<2048):∀ k,k≤16→∀ o,zen ws M k=some o →
  (∀ e ∈ o,∃ i,i<k∧e.a=((112+i:Nat):Int)∧e.v<18446744073709551616)∧o.Pairwise (fun a b=>a.a<b.a)∧(∀ i,i<k→slAt (zag ws o) i=nwS ws M i)∧(∀ i,i<k→(slAt ws i).used=true→(ze2 M (slAt ws i).at_).isSome=true):=by
 intro k
 induction k with
 | zero =>
  intro _ o h
  simp only[zen,Option.some.injEq] at h
  subst h
  exact ⟨fun e he=>(by cases he),List.Pairwise.nil,fun i h=>absurd h (by omega),fun i h=>absurd h (by omega)⟩
 | succ k ih =>
  intro hk o h
  simp only[zen] at h
  cases hf:zen ws M k with
  | none=>rw[hf] at h;cases h
  | some o1 =>
  rw[hf] at h
  obtain ⟨i1,i2,i3,i4⟩:=ih (by omega) o1 hf
  have hold:wd (zag ws o1) (112+k)=wd ws (112+k):=za9 o1 ws _ fun e he=>by
   obtain ⟨i,h1,h2,-⟩:=i1 e he
   rw[h2];omega
  have hnil:∀ (h3:slAt ws k=nwS ws M k) (h4:(slAt ws k).used=true→(ze2 M (slAt ws k).at_).isSome=true),(∀ e ∈ o1,∃ i,i<k+1∧e.a=((112+i:Nat):Int)∧e.v<18446744073709551616)∧o1.Pairwise (fun a b=>a.a<b.a)∧(∀ i,i<k+1→slAt (zag ws o1) i=nwS ws M i)∧(∀ i,i<k+1→(slAt ws i).used=true→(ze2 M (slAt ws i).at_).isSome=true):=by
   intro h3 h4
   refine ⟨fun e he => ?_,i2,fun i hi => ?_,fun i hi => ?_⟩
   · obtain ⟨i,j1,j2,j3⟩:=i1 e he
     exact ⟨i,by omega,j2,j3⟩
   · rcases Nat.lt_or_ge i k with h5|h5
     · exact i3 i h5
     · have:i=k:=by omega
       subst this
       rw[←h3]
       unfold slAt
       rw[hold]
   · rcases Nat.lt_or_ge i k with h5|h5
     · exact i4 i h5
     · have:i=k:=by omega
       subst this;exact h4
  cases hs:zig ws M k with
  | none=>rw[hs] at h;cases h
  | some y =>
   rw[hs] at h
   simp only[Option.map_some,Option.some.injEq] at h
   subst h
   unfold zig at hs
   split at hs
   · rename_i hu
     obtain ⟨r1,r2,r3,r4⟩:=ze8 (wd ws (112+k))
     change 0≤(slAt ws k).gen at r1
     change (slAt ws k).gen≤_ at r2
     change 0≤(slAt ws k).at_ at r3
     obtain ⟨g,hg⟩:=Int.eq_ofNat_of_zero_le r1
     cases hx:zf0 M (slAt ws k).at_.toNat with
     | none=>rw[hx] at hs;cases hs
     | some t =>
       rw[hx] at hs
       have hm:ze2 M (slAt ws k).at_=some t:=by
         unfold zf0 at hx
         split at hx
         · cases hx
         · rw[Int.toNat_of_nonneg r3] at hx;exact hx
       obtain ⟨n,rfl,hn⟩:=hM _ _ hm
       have hnw:nwS ws M k=⟨(g:Int),true,(n:Int)⟩:=by
         unfold nwS
         rw[if_pos hu,hm,hg];rfl
       have hrt:=zHa (g:=g) (a:=n) (by omega) (by omega)
       have hlt:=zCu (g:=g) (a:=n) (by omega) (by omega) true
       have hso:(slAt ws k).used=true→(ze2 M (slAt ws k).at_).isSome=true:=fun _=>by rw[hm];rfl
       dsimp only at hs
       rw[hg] at hs
       by_cases he:wd ws (112+k)=zn1 ⟨(g:Int),true,(n:Int)⟩
       · rw[if_pos he] at hs
         injection hs with hs
         subst hs
         rw[List.append_nil]
         exact hnil (by rw[hnw,←hrt,←he];rfl) hso
       · rw[if_neg he] at hs
         injection hs with hs
         subst hs
         refine ⟨fun e he => ?_,?_,fun i hi => ?_,fun i hi => ?_⟩
         · rcases List.mem_append.1 he with h5|h5
           · obtain ⟨i,j1,j2,j3⟩:=i1 e h5
             exact ⟨i,by omega,j2,j3⟩
           · simp only[List.mem_singleton] at h5
             subst h5
             exact ⟨k,by omega,rfl,hlt⟩
         · rw[List.pairwise_append]
           refine ⟨i2,by simp,fun a ha b hb => ?_⟩
           simp only[List.mem_singleton] at hb
           subst hb
           obtain ⟨i,j1,j2,-⟩:=i1 a ha
           rw[j2]
           dsimp only
           omega
         · have hkk:112+k<(zag ws o1).length:=by rw[zau];omega
           unfold slAt
           rw[zea,zA2 hkk]
           split
           · rename_i h6
             have:i=k:=by omega
             subst this
             rw[hrt,hnw]
           · exact i3 i (by omega)
         · rcases Nat.lt_or_ge i k with h5|h5
           · exact i4 i h5
           · have:i=k:=by omega
             subst this;exact hso
   · rename_i hu
     injection hs with hs
     subst hs
     rw[List.append_nil]
     exact hnil (by unfold nwS;rw[if_neg hu]) (fun h=>absurd h hu)
theorem zip {ws:List Nat} (h:zey ws=0):256≤ws.length∧zae ws=0∧zbi ws 128 128=0∧zdi ws=0∧zer ws=slL ws∧zdi (zag ws (zec ws))=0∧zer (zag ws (zec ws))=slL (zag ws (zec ws)) ∧
  (∀ e ∈ zec ws,(112≤e.a∧e.a<128)∧e.v<18446744073709551616)∧(zec ws).Pairwise (fun a b=>a.a<b.a)∧(zec ws).length≤16 ∧
  (∀ i,i<16→slAt (zag ws (zec ws)) i=nwS ws (zhn ws 128 128) i)∧(∀ i,i<16→(slAt ws i).used=true→(ze2 (zhn ws 128 128) (slAt ws i).at_).isSome=true):=by
 have h0:zc1 ws=0:=by
  by_cases h1:zc1 ws=0
  · exact h1
  · unfold zey at h;rw[if_neg h1] at h;exact absurd h h1
 have h2:slsOk ws=true:=by
  cases hq:slsOk ws with
  | true=>rfl
  | false=>rw[fs_sl h0 hq] at h;cases h
 obtain ⟨o,ho⟩:∃ o,zen ws (zeu ws) 16=some o:=by
  cases hq:zen ws (zeu ws) 16 with
  | some o=>exact ⟨o,rfl⟩
  | none=>rw[zHz h0 h2 hq] at h;cases h
 obtain ⟨e1,e2⟩:=zK6 h0 h2 ho
 obtain ⟨g1,g2,g3⟩:=zd1 h0
 have hs:=(zam g1).1
 have hbd:=zf5 ws hs
 have hto:=fun a t (ht:ze2 (zeu ws) a=some t)=>zGw h0 ht
 have hlen:=zsb ho
 obtain ⟨j1,j2,j3,j4⟩:=zA0 (by omega) (fun a t ht=>by obtain ⟨n,q1,-,-,q4,-⟩:=hto a t ht;exact ⟨n,q1,q4⟩) 16 (Nat.le_refl _) o ho
 rw[g3] at j3 j4 hto
 rw[e2]
 obtain ⟨k1,k2⟩:=zf3 hs h2
 have hok:slsOk (zag ws o)=true:=(zb9 _).2 fun i hi=>by
  rw[j3 i hi]
  have hi2:=(zb9 ws).1 h2 i hi
  unfold nwS
  split
  · rename_i hu
    obtain ⟨t,ht⟩:=Option.isSome_iff_exists.1 (j4 i hi hu)
    obtain ⟨n,rfl,n1,-,n2,-⟩:=hto _ _ ht
    obtain ⟨u1,-,-⟩:=zto hi2 hu
    rw[ht]
    unfold znd
    rw[if_pos rfl]
    simp only[Bool.and_eq_true,decide_eq_true_eq,Option.getD_some]
    omega
  · exact hi2
 obtain ⟨k3,k4⟩:=zf3 (ws:=zag ws o) (by rw[zau];exact hs) hok
 refine ⟨by omega,g1,g2,k1,k2,k3,k4,fun e he => ?_,j2,hlen,j3,j4⟩
 obtain ⟨i,i1,i2,i3⟩:=j1 e he
 exact ⟨by rw[i2];omega,i3⟩
end Go.Proofs.YtpcajamacpbjcaaGreat
namespace Go.Proofs.YtpcajamacpbjcaaGreat
open Lib (hid)
theorem zAw (F:List Nat) (a:Int) (j:Nat):(zt0 F a j).Pairwise (· < ·):=by
 induction j with
 | zero=>exact List.Pairwise.nil
 | succ j ih =>
  rw[zrd,List.pairwise_append]
  refine ⟨ih,by split <;> simp,fun x hx y hy => ?_⟩
  obtain ⟨i,i1,-,i3⟩:=zke.1 hx
  split at hy
  · simp only[List.mem_singleton] at hy
    omega
  · cases hy
def zEg (ws x:List Nat) (M:List (Int × Int)) (r:Nat):Prop:=(wd ws r=0∧wd x r=0)∨(0<wd ws r∧∃ t m:Nat,ze2 M (wd ws r:Int)=some (t:Int)∧wd x r=t∧t<2048∧wd ws r=m∧m<ws.length)
theorem zCt {ws:List Nat} {M:List (Int × Int)} {l:List Int} {f:Nat→Nat} (hM:∀ a t,ze2 M a=some t→∃ n:Nat,t=(n:Int)∧n<2048∧∃ m:Nat,a=(m:Int)∧m<ws.length)
  (hl:∀ i (hi:i<l.length),l[i]=(f i:Int)) (hf:∀ i,i<l.length→f i<ws.length) (hi:∀ i j,i<j→j<l.length→f i<f j):∀ k,k≤l.length→∀ o,zdh ws M (l.take k)=some o →
  (∀ e ∈ o,∃ i,i<k∧e.a=(f i:Int)∧wd ws (f i)≠e.v∧e.v<2048)∧o.Pairwise (fun a b=>a.a<b.a)∧(∀ i,i<k→zEg ws (zag ws o) M (f i)):=by
 intro k
 induction k with
 | zero =>
  intro _ o h
  simp only[List.take_zero,zdh,Option.some.injEq] at h
  subst h
  exact ⟨fun e he=>(by cases he),List.Pairwise.nil,fun i h=>absurd h (by omega)⟩
 | succ k ih =>
  intro hk o h
  have hkl:k<l.length:=by omega
  cases hx:zdh ws M (l.take k) with
  | none =>
    rw[List.take_succ_eq_append_getElem hkl,zh6,hx] at h
    cases h
  | some o1 =>
  rw[zks hkl hx,hl k hkl,Int.toNat_natCast] at h
  obtain ⟨i1,i2,i3⟩:=ih (by omega) o1 hx
  have hold:wd (zag ws o1) (f k)=wd ws (f k):=za9 o1 ws _ fun e he=>by
    obtain ⟨i,h1,h2,-⟩:=i1 e he
    have:=hi i k h1 hkl
    rw[h2];omega
  have hnil:zEg ws (zag ws o1) M (f k)→(∀ e ∈ o1,∃ i,i<k+1∧e.a=(f i:Int)∧wd ws (f i)≠e.v∧e.v<2048)∧o1.Pairwise (fun a b=>a.a<b.a)∧(∀ i,i<k+1→zEg ws (zag ws o1) M (f i)):=by
    intro h3
    refine ⟨fun e he => ?_,i2,fun i hi => ?_⟩
    · obtain ⟨i,j1,j2,j3,j4⟩:=i1 e he
      exact ⟨i,by omega,j2,j3,j4⟩
    · rcases Nat.lt_or_ge i k with h5|h5
      · exact i3 i h5
      · have:i=k:=by omega
        subst this
        exact h3
  unfold zfk at h
  by_cases h0:wd ws (f k)=0
  · rw[if_pos h0] at h
    simp only[Option.map_some,Option.some.injEq,List.append_nil] at h
    subst h
    exact hnil (.inl ⟨h0,by rw[hold,h0]⟩)
  · rw[if_neg h0] at h
    cases hq:zf0 M (wd ws (f k)) with
    | none=>rw[hq] at h;cases h
    | some t =>
      rw[hq] at h
      have hm:ze2 M (wd ws (f k):Int)=some t:=by
        unfold zf0 at hq
        split at hq
        · cases hq
        · exact hq
      obtain ⟨n,rfl,hn,m,em,hm2⟩:=hM _ _ hm
      dsimp only at h
      by_cases he:(wd ws (f k):Int)=(n:Int)
      · rw[if_pos he] at h
        simp only[Option.map_some,Option.some.injEq,List.append_nil] at h
        subst h
        exact hnil (.inr ⟨by omega,n,m,hm,by rw[hold];omega,hn,by omega,hm2⟩)
      · rw[if_neg he] at h
        simp only[Option.map_some,Option.some.injEq] at h
        subst h
        rw[Int.toNat_natCast]
        have hkk:f k<(zag ws o1).length:=by rw[zau];exact hf k hkl
        refine ⟨fun e he2 => ?_,?_,fun i hi2 => ?_⟩
        · rcases List.mem_append.1 he2 with h5|h5
          · obtain ⟨i,j1,j2,j3,j4⟩:=i1 e h5
            exact ⟨i,by omega,j2,j3,j4⟩
          · simp only[List.mem_singleton] at h5
            subst h5
            exact ⟨k,by omega,rfl,by dsimp only;omega,hn⟩
        · rw[List.pairwise_append]
          refine ⟨i2,by simp,fun a ha b hb => ?_⟩
          simp only[List.mem_singleton] at hb
          subst hb
          obtain ⟨i,j1,j2,-⟩:=i1 a ha
          have:=hi i k j1 hkl
          rw[j2]
          dsimp only
          omega
        · unfold zEg
          rw[zea,zA2 hkk]
          rcases Nat.lt_or_ge i k with h5|h5
          · have:=hi i k h5 hkl
            rw[if_neg (by omega)]
            exact i3 i h5
          · have:i=k:=by omega
            subst this
            rw[if_pos rfl]
            exact .inr ⟨by omega,n,m,hm,rfl,hn,by omega,hm2⟩
theorem zhb {ws:List Nat} {a:Int} (h:zdw ws a=0):∃ f:Nat→Nat,(256≤ws.length∧ws.length≤2048)∧zbi ws 128 128=0∧zn0 ws a=0∧(zb0 ws a).length≤8∧(zct ws a).length≤8 ∧
  (∀ i (hi:i<(zb0 ws a).length),(zb0 ws a)[i]=(f i:Int)∧a≤(f i:Int)∧f i<ws.length∧zEg ws (zag ws (zct ws a)) (zhn ws 128 128) (f i)) ∧
  (∀ j,(∀ i,i<(zb0 ws a).length→f i≠j)→wd (zag ws (zct ws a)) j=wd ws j) ∧
  (∀ e ∈ zct ws a,∃ r:Nat,e.a=(r:Int)∧r<ws.length∧wd ws r≠e.v∧e.v<2048)∧(zct ws a).Pairwise (fun a b=>a.a<b.a):=by
 have h0:zc1 ws=0:=by
  by_cases h1:zc1 ws=0
  · exact h1
  · rw[(zBe rfl h1).1] at h;exact absurd h h1
 obtain ⟨g1,g2,g3⟩:=zd1 h0
 cases hb:zkm (za5 ws 128) a with
 | none=>rw[(zt9 h0 hb).1] at h;cases h
 | some b =>
  cases hmk:b.mark with
  | false=>rw[(zt8 h0 hb hmk).1] at h;cases h
  | true =>
    cases ho:zdh ws (zeu ws) (zfr ws b) with
    | none=>rw[(zCw h0 hb hmk ho).1] at h;cases h
    | some o =>
     have eo:=(zDj h0 hb hmk ho).2
     have er:zb0 ws a=zfr ws b:=by simp[zb0,g1,hb]
     have ee:zn0 ws a=0:=by simp[zn0,g1,zdt,hb]
     obtain ⟨m,t,xs,xk,xm,xn,ea,eb,ht8,hobj,hmlt,hR8,hRin⟩:=zmj g1 hb
     have hbd:=zf5 ws (zam g1).1
     have hp:(zfr ws b).Pairwise (· < ·):=zAw _ _ _
     have hpi:=List.pairwise_iff_getElem.1 hp
     have hlf:∀ i (hi:i<(zfr ws b).length),(zfr ws b)[i]=((((zfr ws b)[i]?.getD 0).toNat:Nat):Int):=fun i hi=>by
       obtain ⟨r,e1,-,-⟩:=hRin i hi
       rw[List.getElem?_eq_getElem hi,Option.getD_some,e1,Int.toNat_natCast]
     have hlo:=zse ho
     have hto:=fun x y (hy:ze2 (zeu ws) x=some y)=>zGw h0 hy
     have hM:∀ x y,ze2 (zeu ws) x=some y→∃ n:Nat,y=(n:Int)∧n<2048∧∃ m:Nat,x=(m:Int)∧m<ws.length:=fun x y hy=>by
       obtain ⟨n,q1,-,-,q4,m,q5,-,q7⟩:=hto x y hy
       exact ⟨n,q1,q4,m,q5,q7⟩
     have hfb:∀ i,i<(zfr ws b).length→((zfr ws b)[i]?.getD 0).toNat<ws.length:=fun i hi=>by
       obtain ⟨r,e1,-,e3⟩:=hRin i hi
       rw[List.getElem?_eq_getElem hi,Option.getD_some,e1,Int.toNat_natCast];exact e3
     have hinc:∀ i j,i<j→j<(zfr ws b).length→((zfr ws b)[i]?.getD 0).toNat<((zfr ws b)[j]?.getD 0).toNat:=fun i j hij hj=>by
       have h1:=hpi i j (by omega) hj hij
       have h2:=hlf i (by omega)
       have h3:=hlf j hj
       omega
     obtain ⟨j1,j2,j3⟩:=zCt hM hlf hfb hinc _ (Nat.le_refl _) o (by rw[List.take_length];exact ho)
     rw[eo,er]
     rw[←g3]
     refine ⟨fun i=>((zfr ws b)[i]?.getD 0).toNat,by omega,g2,ee,hR8,by omega,fun i hi=>⟨hlf i hi,?_,hfb i hi,j3 i hi⟩,fun j hj => ?_,fun e he => ?_,j2⟩
     · obtain ⟨r,e1,e2,-⟩:=hRin i hi
       have:=hlf i hi
       rw[ea]
       show (m:Int)≤((((zfr ws b)[i]?.getD 0).toNat:Nat):Int)
       omega
     · refine za9 o ws j fun e he => ?_
       obtain ⟨i,k1,k2,-⟩:=j1 e he
       have:=hj i k1
       dsimp only at this
       rw[k2];omega
     · obtain ⟨i,k1,k2,k3,k4⟩:=j1 e he
       exact ⟨_,k2,hfb i k1,k3,k4⟩
end Go.Proofs.YtpcajamacpbjcaaGreat
