/- Texts laid together: RchP Hnd Hnd2 Flds Rch Rcd. -/
import Derived.Test.YtpcajamacpbjcaaGreatZKHead
import Derived.Test.YtpcajamacpbjcaaGreatZKHeap
import Derived.Deep.RegionHeld3
import Derived.Deep.DrawnRows
import Derived.Laws.OwnMore
namespace Go.Proofs.YtpcajamacpbjcaaGreat
open Lib (hid)
structure Sl where
 gen:Int
 used:Bool
 at_:Int
 deriving DecidableEq,Inhabited
def Sl.cells (x:Sl):List Value:=[.int .i64 x.gen,.bool x.used,.int .i64 x.at_]
theorem Sl.len (x:Sl):x.cells.length=3:=rfl
def zdj (w:Nat):Sl:=⟨((w / 4294967296 % 2147483648:Nat):Int),w / 9223372036854775808 == 1,((w % 4294967296:Nat):Int)⟩
def znd (s:Sl):Bool:=if s.used=true then decide (0<s.gen) && (decide (128≤s.at_) && decide (s.at_<2048)) else s.at_ == 0
def slAt (ws:List Nat) (i:Nat):Sl:=zdj (wd ws (112+i))
def znx (ws:List Nat) (k:Nat):Prop:=∀ i,i<k→znd (slAt ws i)=true
theorem zo4 (ws:List Nat):znx ws 0:=fun i h=>absurd h (by omega)
theorem zoe {ws:List Nat} {k:Nat} (h:znx ws k) (h1:znd (slAt ws k)=true):znx ws (k+1):=fun i hi=>by
 rcases Nat.lt_or_ge i k with h2|h2
 · exact h i h2
 · have:i=k:=by omega
   subst this;exact h1
def slsOk (ws:List Nat):Bool:=(List.range 16).all fun i=>znd (slAt ws i)
theorem zb9 (ws:List Nat):slsOk ws=true↔znx ws 16:=by
 unfold slsOk znx
 rw[List.all_eq_true]
 exact ⟨fun h i hi=>h i (List.mem_range.2 hi),fun h i hi=>h i (List.mem_range.1 hi)⟩
theorem zrs {ws:List Nat} {k:Nat} (hk:k<16) (h:znd (slAt ws k)=false):slsOk ws=false:=by
 cases hq:slsOk ws with
 | false=>rfl
 | true=>rw[(zb9 ws).1 hq k hk] at h;cases h
def slL (ws:List Nat):List Sl:=(List.range 16).map (slAt ws)
theorem zcy (ws:List Nat):(slL ws).length=16:=by simp[slL]
theorem zjh (ws:List Nat) {i:Nat} (h:i<(slL ws).length):(slL ws)[i]=slAt ws i:=by simp[slL]
def zdi (ws:List Nat):Int:=if zah (ws.length:Int)=true then (if slsOk ws=true then 0 else 50) else 8
def zer (ws:List Nat):List Sl:=if zdi ws=0 then slL ws else []
theorem zxa {ws:List Nat} (h:zah (ws.length:Int)=false):zdi ws=8:=by simp[zdi,h]
theorem zk0 {ws:List Nat} (h:zah (ws.length:Int)=true) (h2:slsOk ws=false):zdi ws=50:=by simp[zdi,h,h2]
theorem zf3 {ws:List Nat} (h:zah (ws.length:Int)=true) (h2:slsOk ws=true):zdi ws=0∧zer ws=slL ws:=by simp[zer,zdi,h,h2]
theorem ze8 (w:Nat):0≤(zdj w).gen∧(zdj w).gen≤2147483647∧0≤(zdj w).at_∧(zdj w).at_≤4294967295:=by
 unfold zdj
 dsimp only
 have h1:=Nat.mod_lt (w / 4294967296) (show 0<2147483648 by omega)
 have h2:=Nat.mod_lt w (show 0<4294967296 by omega)
 omega
theorem zto {s:Sl} (h:znd s=true) (hu:s.used=true):0<s.gen∧128≤s.at_∧s.at_<2048:=by
 unfold znd at h
 rw[if_pos hu] at h
 simpa using h
def zqs (n:Nat) (l:List Bk):List Int:=l.foldl (fun t b=>if b.kind=1 then t.set b.at_.toNat (b.typ+1) else t) (List.replicate n 0)
theorem zA5 {n:Nat} {l:List Bk} {k:Nat} (hk:k<l.length):zqs n (l.take (k+1))=if l[k].kind=1 then (zqs n (l.take k)).set l[k].at_.toNat (l[k].typ+1) else zqs n (l.take k):=by
 unfold zqs
 rw[List.take_succ_eq_append_getElem hk,List.foldl_append]
 rfl
theorem zr2 (t:List Int) (l:List Bk):(l.foldl (fun t b=>if b.kind=1 then t.set b.at_.toNat (b.typ+1) else t) t).length=t.length:=by
 induction l generalizing t with
 | nil=>rfl
 | cons b l ih=>simp only[List.foldl_cons];rw[ih];split <;> simp
theorem zpx (n:Nat) (l:List Bk):(zqs n l).length=n:=by unfold zqs;rw[zr2,List.length_replicate]
theorem zGj (l:List Bk) (t:List Int) (P:Nat→Int→Prop) (h0:∀ a,(t[a]?.getD 0)=0∨P a (t[a]?.getD 0)) (h1:∀ b ∈ l,b.kind=1→P b.at_.toNat (b.typ+1)) (a:Nat) :
  ((l.foldl (fun t b=>if b.kind=1 then t.set b.at_.toNat (b.typ+1) else t) t)[a]?.getD 0)=0∨P a ((l.foldl (fun t b=>if b.kind=1 then t.set b.at_.toNat (b.typ+1) else t) t)[a]?.getD 0):=by
 induction l generalizing t with
 | nil=>exact h0 a
 | cons b l ih =>
  simp only[List.foldl_cons]
  refine ih _ (fun a => ?_) (fun x hx=>h1 x (by simp[hx]))
  split
  · rename_i hk
    rw[List.getElem?_set]
    split
    · rename_i e
      subst e
      split
      · right;exact h1 b (by simp) hk
      · left;rfl
    · exact h0 a
  · exact h0 a
theorem zKz (l:List Bk) (t:List Int) (a:Nat) (ha:a<t.length) (h:(t[a]?.getD 0)≠0∨∃ b ∈ l,b.kind=1∧b.at_.toNat=a) (hty:∀ b ∈ l,b.kind=1→0≤b.typ) :
  ((l.foldl (fun t b=>if b.kind=1 then t.set b.at_.toNat (b.typ+1) else t) t)[a]?.getD 0)≠0:=by
 induction l generalizing t with
 | nil =>
  rcases h with h|⟨b,hb,-⟩
  · exact h
  · cases hb
 | cons b l ih =>
  simp only[List.foldl_cons]
  refine ih _ (by split <;> simp[ha]) ?_ (fun x hx=>hty x (by simp[hx]))
  by_cases hk:b.kind=1
  · rw[if_pos hk,List.getElem?_set]
    by_cases e:b.at_.toNat=a
    · left
      rw[if_pos e,if_pos (by omega)]
      have:=hty b (by simp) hk
      simp only[Option.getD_some,ne_eq];omega
    · rw[if_neg e]
      rcases h with h|⟨x,hx,h2,h3⟩
      · exact .inl h
      · rcases List.mem_cons.1 hx with rfl|hx
        · exact absurd h3 e
        · exact .inr ⟨x,hx,h2,h3⟩
  · rw[if_neg hk]
    rcases h with h|⟨x,hx,h2,h3⟩
    · exact .inl h
    · rcases List.mem_cons.1 hx with rfl|hx
      · exact absurd h2 hk
      · exact .inr ⟨x,hx,h2,h3⟩
def tb (ws:List Nat) (a:Nat):Int:=(zqs ws.length (zab ws))[a]?.getD 0
theorem zn4 {ws:List Nat} {a:Nat} (h:tb ws a≠0):a<ws.length:=by
 rcases Nat.lt_or_ge a ws.length with h1|h1
 · exact h1
 · unfold tb at h
   rw[List.getElem?_eq_none (by rw[zpx];exact h1)] at h
   exact absurd rfl h
def zep (ws:List Nat) (a:Nat):Prop:=128≤a∧a % 2=0∧a<ws.length∧stands ws a=true∧(zaf (wd ws a)).kind=1∧zds ws (bkAt ws a)=true∧∃ k,∃ h:k<(zab ws).length,(zab ws)[k]=bkAt ws a∧blocks ws a=some ((zab ws).drop k)
theorem ziy {ws:List Nat} (h:zae ws=0) {k:Nat} (hk:k<(zab ws).length) (h1:(zab ws)[k].kind=1):∃ a,(zab ws)[k]=bkAt ws a∧zep ws a:=by
 obtain ⟨hs,l,hl,ha,ho⟩:=zam h
 subst ho
 obtain ⟨a,e1,e2,e3,e4,e5,e6⟩:=zb5 _ _ hl (by omega) k hk
 refine ⟨a,e1,e3,e2,e4,e5,by rw[e1] at h1;exact h1,?_,k,hk,e1,e6⟩
 rw[List.all_eq_true] at ha
 rw[←e1];exact ha _ (List.getElem_mem hk)
theorem zhp {ws:List Nat} (h:zae ws=0) {a:Nat} (ht:tb ws a≠0):zep ws a∧tb ws a=(zaf (wd ws a)).typ+1:=by
 have key:=zGj (zab ws) (List.replicate ws.length 0) (fun a v=>zep ws a∧v=(zaf (wd ws a)).typ+1) (fun a=>.inl (by
  rw[List.getElem?_replicate];split <;> rfl)) (fun b hb hk=>by
  obtain ⟨k,hk2,rfl⟩:=List.getElem_of_mem hb
  obtain ⟨a,e1,e2⟩:=ziy h hk2 hk
  rw[e1]
  have:(bkAt ws a).at_.toNat=a:=by rw[zaa,Int.toNat_natCast]
  rw[this]
  exact ⟨e2,rfl⟩) a
 exact key.resolve_left ht
theorem zHp {ws:List Nat} (h:zae ws=0) {a:Nat} (ho:zep ws a):tb ws a=(zaf (wd ws a)).typ+1∧tb ws a≠0:=by
 obtain ⟨h1,h2,h3,h4,h5,h6,k,hk,h7,h8⟩:=ho
 have hne:tb ws a≠0:=by
  unfold tb zqs
  refine zKz _ _ _ (by rw[List.length_replicate];exact h3) (.inr ⟨_,List.getElem_mem hk,by rw[h7];exact h5,by rw[h7,zaa,Int.toNat_natCast]⟩) (fun b hb hkk => ?_)
  obtain ⟨m,hm,rfl⟩:=List.getElem_of_mem hb
  obtain ⟨a',e1,e2⟩:=ziy h hm hkk
  rw[e1]
  show 0≤((_:Nat):Int)
  omega
 exact ⟨(zhp h hne).2,hne⟩
def flds (ws:List Nat) (a:Nat):List Nat:=zbd (wd ws (96+2 * (zaf (wd ws a)).typ.toNat)) (wd ws (96+2 * (zaf (wd ws a)).typ.toNat+1))
theorem zDd (ws:List Nat) (a:Nat):(flds ws a).length≤8:=zjm _ _
theorem ztw {ws:List Nat} {a:Nat} (h:zep ws a) {i:Nat} (hi:i<(flds ws a).length):a+2+i<ws.length:=by
 obtain ⟨h1,h2,h3,h4,h5,h6,-⟩:=h
 have hs:=zav h4
 have hf:zds ws (bkAt ws a)=zc2 ws (bkAt ws a):=by
  unfold zds
  have:((bkAt ws a).kind != 1)=false:=by rw[bne_eq_false_iff_eq];exact h5
  rw[this,Bool.false_or]
 have hfo:=zh4 (ws:=ws) (b:=bkAt ws a) h5
 rw[hf] at h6
 rw[hf,h6] at hfo
 have hfo:=hfo.symm
 simp only[Bool.and_eq_true,beq_iff_eq] at hfo
 have h7:=hfo.2
 rw[zba] at h7
 have h8:(flds ws a).length=(zbd (wd ws (tyA (bkAt ws a))) (wd ws (tyA (bkAt ws a)+1))).length:=rfl
 unfold za8 at h7
 omega
inductive Rch (ws:List Nat):Nat→Prop
 | slot (i:Nat) (hi:i<16) (hu:(slAt ws i).used=true):Rch ws (slAt ws i).at_.toNat
 | ref (a i:Nat) (ha:Rch ws a) (ht:tb ws a≠0) (hi:(flds ws a)[i]? = some 3) (hv:wd ws (a+2+i)≠0):Rch ws (min (wd ws (a+2+i)) 2048)
def zst (ws:List Nat):Prop:=∀ a,Rch ws a→tb ws a≠0
def zlt (ws:List Nat) (a:Nat) (j:Nat):List Nat:=(List.range j).filterMap fun i=>if (flds ws a)[i]? = some 3∧wd ws (a+2+i)≠0 then some (min (wd ws (a+2+i)) 2048) else none
theorem zzo (ws:List Nat) (a j:Nat):zlt ws a (j+1)=zlt ws a j++(if (flds ws a)[j]? = some 3∧wd ws (a+2+j)≠0 then [min (wd ws (a+2+j)) 2048] else []):=by
 unfold zlt
 rw[List.range_succ,List.filterMap_append]
 congr 1
 simp only[List.filterMap_cons,List.filterMap_nil]
 split <;> simp_all
theorem zG0 (ws:List Nat) (a j:Nat):(zlt ws a j).length≤j:=by
 unfold zlt
 have:=List.length_filterMap_le (fun i=>if (flds ws a)[i]? = some 3∧wd ws (a+2+i)≠0 then some (min (wd ws (a+2+i)) 2048) else none) (List.range j)
 rwa [List.length_range] at this
theorem zGm {ws:List Nat} {a j x:Nat} (h:x ∈ zlt ws a j):∃ i,(flds ws a)[i]? = some 3∧wd ws (a+2+i)≠0∧x=min (wd ws (a+2+i)) 2048:=by
 unfold zlt at h
 rw[List.mem_filterMap] at h
 obtain ⟨i,-,h2⟩:=h
 split at h2
 · rename_i h3
   injection h2 with h2
   exact ⟨i,h3.1,h3.2,h2.symm⟩
 · cases h2
theorem zGv {ws:List Nat} {a i:Nat} (h1:(flds ws a)[i]? = some 3) (h2:wd ws (a+2+i)≠0):min (wd ws (a+2+i)) 2048 ∈ zlt ws a (flds ws a).length:=by
 unfold zlt
 rw[List.mem_filterMap]
 refine ⟨i,List.mem_range.2 (List.getElem?_eq_some_iff.1 h1).1,?_⟩
 rw[if_pos ⟨h1,h2⟩]
structure Wk (ws:List Nat) (seen:List Bool) (todo:List Nat):Prop where
 hlen:seen.length=ws.length
 htodo:∀ a ∈ todo,Rch ws a
 hseen:∀ a,seen[a]? = some true→Rch ws a∧tb ws a≠0
 hslot:∀ i,i<16→(slAt ws i).used=true→(slAt ws i).at_.toNat ∈ todo∨seen[(slAt ws i).at_.toNat]? = some true
 href:∀ a i,seen[a]? = some true→(flds ws a)[i]? = some 3→wd ws (a+2+i)≠0→min (wd ws (a+2+i)) 2048 ∈ todo∨seen[min (wd ws (a+2+i)) 2048]? = some true
theorem Wk.bad {ws:List Nat} {seen:List Bool} {todo:List Nat} {a:Nat} (h:Wk ws seen (todo++[a])) (h0:tb ws a=0):¬ zst ws:=fun hg=>hg a (h.htodo a (by simp)) h0
theorem Wk.old {ws:List Nat} {seen:List Bool} {todo:List Nat} {a:Nat} (h:Wk ws seen (todo++[a])) (h1:seen[a]? = some true):Wk ws seen todo:=by
 have key:∀ x,x ∈ todo++[a]∨seen[x]? = some true→x ∈ todo∨seen[x]? = some true:=by
  intro x hx
  rcases hx with hx|hx
  · rcases List.mem_append.1 hx with hx|hx
    · exact .inl hx
    · rw[List.mem_singleton] at hx;subst hx;exact .inr h1
  · exact .inr hx
 exact ⟨h.hlen,fun x hx=>h.htodo x (by simp[hx]),h.hseen,fun i hi hu=>key _ (h.hslot i hi hu),fun x i hx hf hv=>key _ (h.href x i hx hf hv)⟩
theorem Wk.new_ {ws:List Nat} {seen:List Bool} {todo:List Nat} {a:Nat} (h:Wk ws seen (todo++[a])) (h0:tb ws a≠0):Wk ws (seen.set a true) (todo++zlt ws a (flds ws a).length):=by
 have hl:=h.hlen
 have hal:=zn4 h0
 have hset:∀ x,(seen.set a true)[x]? = some true↔x=a∨seen[x]? = some true:=by
   intro x
   rw[List.getElem?_set]
   by_cases e:a=x
   · subst e;simp[hl,hal]
   · rw[if_neg e]
     constructor
     · exact .inr
     · rintro (h1|h1)
       · exact absurd h1.symm e
       · exact h1
 have key:∀ x,x ∈ todo++[a]∨seen[x]? = some true→x ∈ todo++zlt ws a (flds ws a).length∨(seen.set a true)[x]? = some true:=by
   intro x hx
   rw[hset]
   rcases hx with hx|hx
   · rcases List.mem_append.1 hx with hx|hx
     · exact .inl (by simp[hx])
     · rw[List.mem_singleton] at hx;exact .inr (.inl hx)
   · exact .inr (.inr hx)
 have har:Rch ws a:=h.htodo a (by simp)
 refine ⟨by rw[List.length_set];exact hl,fun x hx => ?_,fun x hx => ?_,fun i hi hu=>key _ (h.hslot i hi hu),fun x i hx hf hv => ?_⟩
 · rcases List.mem_append.1 hx with hx|hx
   · exact h.htodo x (by simp[hx])
   · obtain ⟨i,g1,g2,rfl⟩:=zGm hx
     exact Rch.ref a i har h0 g1 g2
 · rcases (hset x).1 hx with rfl|hx
   · exact ⟨har,h0⟩
   · exact h.hseen x hx
 · rcases (hset x).1 hx with rfl|hx
   · exact .inl (by rw[List.mem_append];exact .inr (zGv hf hv))
   · exact key _ (h.href x i hx hf hv)
theorem Wk.end_ {ws:List Nat} {seen:List Bool} (h:Wk ws seen []):zst ws∧∀ a,seen[a]? = some true↔Rch ws a:=by
 have all:∀ a,Rch ws a→seen[a]? = some true:=by
  intro a ha
  induction ha with
  | slot i hi hu=>exact (h.hslot i hi hu).resolve_left (by simp)
  | ref a i ha ht hi hv ih=>exact (h.href a i ih hi hv).resolve_left (by simp)
 exact ⟨fun a ha=>(h.hseen a (all a ha)).2,fun a=>⟨fun hs=>(h.hseen a hs).1,all a⟩⟩
def zti (ws:List Nat) (k:Nat):List Nat:=(List.range k).filterMap fun i=>if (slAt ws i).used=true then some (slAt ws i).at_.toNat else none
theorem zCv (ws:List Nat) (k:Nat):zti ws (k+1)=zti ws k++(if (slAt ws k).used=true then [(slAt ws k).at_.toNat] else []):=by
 unfold zti
 rw[List.range_succ,List.filterMap_append]
 congr 1
 simp only[List.filterMap_cons,List.filterMap_nil]
 split <;> simp_all
theorem zu7 (ws:List Nat) (k:Nat):(zti ws k).length≤k:=by
 unfold zti
 have:=List.length_filterMap_le (fun i=>if (slAt ws i).used=true then some (slAt ws i).at_.toNat else none) (List.range k)
 rwa [List.length_range] at this
theorem Wk.start (ws:List Nat):Wk ws (List.replicate ws.length false) (zti ws 16):=by
 have hno:∀ a:Nat,(List.replicate ws.length false)[a]? ≠ some true:=by
   intro a;rw[List.getElem?_replicate];split <;> simp
 refine ⟨List.length_replicate,fun a ha => ?_,fun a ha=>absurd ha (hno a),fun i hi hu=>.inl ?_,fun a i ha=>absurd ha (hno a)⟩
 · unfold zti at ha
   rw[List.mem_filterMap] at ha
   obtain ⟨i,hi,h2⟩:=ha
   split at h2
   · rename_i h3
     injection h2 with h2
     subst h2
     exact Rch.slot i (List.mem_range.1 hi) h3
   · cases h2
 · unfold zti
   rw[List.mem_filterMap]
   exact ⟨i,List.mem_range.2 hi,by rw[if_pos hu]⟩
open Classical in
noncomputable def zap (ws:List Nat):Int:=if zae ws=0 then (if slsOk ws=true then (if zst ws then 0 else 50) else 50) else zae ws
open Classical in
noncomputable def seenL (ws:List Nat):List Bool:=(List.range ws.length).map fun a=>decide (Rch ws a)
open Classical in
noncomputable def za3 (ws:List Nat):List Int:=if zap ws=0 then ((List.range ws.length).filter fun a=>decide (Rch ws a)).map (fun a:Nat=>(a:Int)) else []
theorem Wk.seenL {ws:List Nat} {seen:List Bool} (h:Wk ws seen []):seen=seenL ws:=by
 have h2:=h.end_.2
 apply List.ext_getElem?
 intro a
 unfold Proofs.YtpcajamacpbjcaaGreat.seenL
 by_cases ha:a<ws.length
 · have hs:a<seen.length:=by rw[h.hlen];exact ha
   rw[List.getElem?_map,List.getElem?_range ha,List.getElem?_eq_getElem hs]
   simp only[Option.map_some,Option.some.injEq]
   have:=h2 a
   rw[List.getElem?_eq_getElem hs,Option.some.injEq] at this
   cases hq:seen[a] with
   | true=>rw[hq] at this;simp[this.1 rfl]
   | false =>
    rw[hq] at this
    have hn:¬ Rch ws a:=fun hr=>by have:=this.2 hr;cases this
    simp[hn]
 · rw[List.getElem?_eq_none (by rw[h.hlen];omega),List.getElem?_eq_none (by simp;omega)]
def zmz (l:List Bool):Nat:=(l.filter (! ·)).length
theorem zwt {l:List Bool} {a:Nat} (h:l[a]? = some false):zmz (l.set a true)+1=zmz l:=by
 induction l generalizing a with
 | nil=>simp at h
 | cons b l ih =>
  cases a with
  | zero =>
   simp only[List.getElem?_cons_zero,Option.some.injEq] at h
   subst h
   simp[zmz]
  | succ a =>
   simp only[List.getElem?_cons_succ] at h
   have:=ih h
   unfold zmz at this ⊢
   cases b <;> simp_all <;> omega
end Go.Proofs.YtpcajamacpbjcaaGreat
namespace Go.Proofs.YtpcajamacpbjcaaGreat
open Lib (hid)
open Go.RowKit
def Sl.val (x:Sl):Value:=.agg #[.int .i64 x.gen,.bool x.used,.int .i64 x.at_]
set_option maxRecDepth 100000 in
set_option maxHeartbeats 1000000 in
theorem zv0 (g:Int) (u:Bool) (a:Int) (w:World) (h1:0≤g) (h2:g≤2147483647) :
   Calls Tryz.prog 171 #[.agg #[.int .i64 g,.bool u,.int .i64 a]] w fun e w'=>e=.returned (.bool (znd ⟨g,u,a⟩))∧Below w.heap.size w w':=by
 have hB:=(Below.refl w.heap.size w).alloc (Nat.le_refl _) (.cells #[.int .i64 g,.bool u,.int .i64 a] 52)
 have HB:=hid hB
 have d1:decide (g<0)=false:=by rw[decide_eq_false_iff_not];omega
 have d2:decide (2147483647<g)=false:=by rw[decide_eq_false_iff_not];omega
 clear hB
 cases u
 · have H:Hid (znd ⟨g,false,a⟩=(a == 0)):=hid rfl
   go_enter Tryz.func171,Tryz.ntmps171
   go_wp2_with fail
   go_ret
   exact ⟨by rw[H.out];rfl,HB.out⟩
 · have H:Hid (∀ b:Bool,b=(decide (0<g) && (decide (128≤a) && decide (a<2048)))→znd ⟨g,true,a⟩=b):=hid fun b h=>by rw[h];rfl
   have hways:(∃ b,decide (0<g)=b)∧(∃ b,decide (128≤a)=b)∧∃ b,decide (a<2048)=b:=⟨⟨_,rfl⟩,⟨_,rfl⟩,⟨_,rfl⟩⟩
   obtain ⟨⟨b1,e1⟩,⟨b2,e2⟩,⟨b3,e3⟩⟩:=hways
   have HV:=hid (H.out _ rfl)
   rw[e1,e2,e3] at HV
   clear H h1 h2
   cases b1 <;> cases b2 <;> cases b3
   all_goals
    go_enter Tryz.func171,Tryz.ntmps171
    go_wp2_with fail
    go_ret
    exact ⟨by rw[HV.out];rfl,HB.out⟩
def slB (x:Nat):Sl:=if znd (zdj x)=true then zdj x else ⟨0,false,0⟩
def zw3 (x:Nat):Int:=if znd (zdj x)=true then 0 else 50
theorem zyn {x:Nat} (h:znd (zdj x)=true):slB x=zdj x∧zw3 x=0:=by simp[slB,zw3,h]
theorem zw7 {x:Nat} (h:znd (zdj x)=false):slB x=⟨0,false,0⟩∧zw3 x=50:=by simp[slB,zw3,h]
theorem zio {fn:Func} {p q:Tmp} (h:fn.results=#[.cell p 52,.tmp q]) (tmps:Array Value) {W:World} {g:Nat} {t:TypeId} {v0 v1 v2 u:Value} (hb:Bx W g t #[v0,v1,v2]) (hp:tmps.getD p undef=.pointer (some ⟨g,0,none⟩)) (hq:tmps.getD q undef=u) :
  (results fn tmps).run Tryz.prog W=.ok (.tuple #[.agg #[v0,v1,v2],u]) W:=by
 obtain ⟨c0,c1,c2,-⟩:=hb.c3
 rw[Array.getD_eq_getD_getElem?] at hp hq
 simp[results,h,hp,hq,go_sem,c0,c1,c2]
theorem zKm (x:Nat) (hx:x<18446744073709551616):bits BinOp.and .u64 ((x:Int) / 4294967296) 2147483647=((x / 4294967296 % 2147483648:Nat):Int)∧bits BinOp.and .u64 (x:Int) 4294967295=((x % 4294967296:Nat):Int) ∧
   (((x:Int) / 9223372036854775808) == 1)=(x / 9223372036854775808 == 1):=by
 refine ⟨?_,zuh (k:=32) (m:=4294967295) hx rfl (by omega),?_⟩
 · have h1:x / 4294967296<18446744073709551616:=by omega
   have h:=zuh (k:=31) (m:=2147483647) h1 rfl (by omega)
   exact h
 · rw[Bool.eq_iff_iff,beq_iff_eq,beq_iff_eq];omega
set_option maxRecDepth 100000 in
set_option maxHeartbeats 2000000 in
theorem zF6 (x:Nat) (w:World) (hx:x<18446744073709551616) :
   Calls Tryz.prog 111 #[.int .u64 (x:Int)] w fun e w'=>e=.returned (.tuple #[(slB x).val,.int .i64 (zw3 x)])∧Below w.heap.size w w':=by
 obtain ⟨e1,e2,e3⟩:=zKm x hx
 obtain ⟨r1,r2,r3,r4⟩:=ze8 x
 have HOK:=hid (fun h=>zyn (x:=x) h)
 have HNO:=hid (fun h=>zw7 (x:=x) h)
 have HRT:=hid (fun W=>zv0 (zdj x).gen (zdj x).used (zdj x).at_ W r1 r2)
 have hx0:(0:Int)≤(x:Int):=by omega
 have g1:((x / 4294967296 % 2147483648:Nat):Int)=(zdj x).gen:=rfl
 have g2:((x % 4294967296:Nat):Int)=(zdj x).at_:=rfl
 have g3:(x / 9223372036854775808 == 1)=(zdj x).used:=rfl
 rw[g1] at e1
 rw[g2] at e2
 rw[g3] at e3
 clear g1 g2 g3 hx
 obtain ⟨s,hs⟩:∃ s,zdj x=s:=⟨_,rfl⟩
 rw[hs] at e1 e2 e3 r1 r2 r3 r4 HRT HOK HNO
 obtain ⟨g,u,a⟩:=s
 dsimp only at e1 e2 e3 r1 r2 r3 r4 HRT
 have w1:IntKind.i64.wrap g=g:=IntWalk.i64_in _ (by omega)
 have w2:IntKind.i64.wrap a=a:=IntWalk.i64_in _ (by omega)
 have b0:=Bx.new w 52 #[.int .i64 0,.bool false,.int .i64 0]
 have B0:=hid (b0.alloc (.cells #[.int .i64 g,.bool u,.int .i64 a] 52))
 have b1:=Bx.new (w.alloc (.cells #[.int .i64 0,.bool false,.int .i64 0] 52)) 52 #[.int .i64 g,.bool u,.int .i64 a]
 rw[World.size_alloc] at b1
 have B1:=hid b1
 have HB:=hid (((Below.refl w.heap.size w).alloc (Nat.le_refl _) (.cells #[.int .i64 0,.bool false,.int .i64 0] 52)).alloc (zcq (Nat.le_refl _)) (.cells #[.int .i64 g,.bool u,.int .i64 a] 52))
 obtain ⟨q,hq⟩:∃ q,znd ⟨g,u,a⟩=q:=⟨_,rfl⟩
 rw[hq] at HRT HOK HNO
 clear b0 b1 hs hq r1 r2 r3 r4
 go_enter Tryz.func111,Tryz.ntmps111
 go_wp2_with fail
 refine (HRT.out _).mono ?_
 rintro e w3 ⟨rfl,hB3⟩
 have hb0:=B0.out.up hB3 B0.out.lt
 have hb1:=B1.out.up hB3 B1.out.lt
 have HB3:=hid (HB.out.trans (hB3.mono HB.out.size))
 obtain ⟨p0,p1,p2,f0,f1,f2,hg0⟩:=hb0.c3
 obtain ⟨n0,n1,n2,-⟩:=hb1.c3
 have HB0:=hid hb0
 clear hb0 hb1 hB3
 cases q
 · have HV:=hid (HNO.out rfl)
   go_wp2_with fail
   exact bodyPost_ret (v:=.tuple #[.agg #[.int .i64 0,.bool false,.int .i64 0],.int .i64 50]) (zio Tryz.results111 _ (((HB0.out.set_ 0 _).set_ 1 _).set_ 2 _) rfl rfl) rfl ⟨by rw[HV.out.1,HV.out.2];rfl,((HB3.out.setCell (Nat.le_refl _) _).setCell (Nat.le_refl _) _).setCell (Nat.le_refl _) _⟩
 · have HV:=hid (HOK.out rfl)
   go_wp2_with fail
   exact bodyPost_ret (v:=.tuple #[.agg #[.int .i64 g,.bool u,.int .i64 a],.int .i64 0]) (zio Tryz.results111 _ (((HB0.out.set_ 0 _).set_ 1 _).set_ 2 _) rfl rfl) rfl ⟨by rw[HV.out.1,HV.out.2];rfl,((HB3.out.setCell (Nat.le_refl _) _).setCell (Nat.le_refl _) _).setCell (Nat.le_refl _) _⟩
def noSl:Sl:=⟨0,false,0⟩
def zjt (ws:List Nat) (k:Nat):List Sl:=(List.range 16).map fun i=>if i<k then slAt ws i else noSl
def zgn (l:List Sl):Array Value:=(l.flatMap Sl.cells).toArray
theorem zh2 (ws:List Nat) (k:Nat):(zjt ws k).length=16:=by simp[zjt]
theorem znc (ws:List Nat) (k j:Nat) (hj:j<16):(zjt ws k)[j]? = some (if j<k then slAt ws j else noSl):=by simp[zjt,hj]
theorem zwe (ws:List Nat) (k:Nat) (hk:k<16):zjt ws (k+1)=(zjt ws k).set k (slAt ws k):=by
 apply List.ext_getElem?
 intro j
 rw[List.getElem?_set]
 by_cases hj:j<16
 · rw[znc _ _ _ hj,znc _ _ _ hj]
   by_cases e:k=j
   · subst e;rw[if_pos (show k<k+1 by omega),if_pos rfl,if_pos (by rw[zh2];exact hk)]
   · rw[if_neg e]
     by_cases h:j<k
     · rw[if_pos h,if_pos (by omega)]
     · rw[if_neg h,if_neg (by omega)]
 · rw[List.getElem?_eq_none (by rw[zh2];omega),if_neg (by omega),List.getElem?_eq_none (by rw[zh2];omega)]
theorem zwl (ws:List Nat):zjt ws 0=List.replicate 16 noSl:=by
 apply List.ext_getElem?
 intro j
 by_cases hj:j<16
 · rw[znc _ _ _ hj,if_neg (by omega),List.getElem?_replicate,if_pos hj]
 · rw[List.getElem?_eq_none (by rw[zh2];omega),List.getElem?_eq_none (by simp;omega)]
theorem zD1 (ws:List Nat):zjt ws 16=slL ws:=by
 unfold zjt slL
 apply List.map_congr_left
 intro i hi
 rw[if_pos (List.mem_range.1 hi)]
theorem sl_set (l:List Sl) (k:Nat) (x:Sl):(l.set k x).flatMap Sl.cells=(((l.flatMap Sl.cells).set (k * 3) (.int .i64 x.gen)).set (k * 3+1) (.bool x.used)).set (k * 3+2) (.int .i64 x.at_):=by
 have h1:=ze9 Sl.cells 3 Sl.len l k 0 (by omega) ⟨x.gen,(l[k]?.getD default).used,(l[k]?.getD default).at_⟩ (.int .i64 x.gen) (fun y hy=>by rw[hy];rfl)
 have h2:=ze9 Sl.cells 3 Sl.len (l.set k ⟨x.gen,(l[k]?.getD default).used,(l[k]?.getD default).at_⟩) k 1 (by omega) ⟨x.gen,x.used,(l[k]?.getD default).at_⟩ (.bool x.used) (fun y hy=>by
  rw[List.getElem?_set] at hy
  simp only[if_true] at hy
  split at hy
  · cases hy;rfl
  · cases hy)
 have h3:=ze9 Sl.cells 3 Sl.len (l.set k ⟨x.gen,x.used,(l[k]?.getD default).at_⟩) k 2 (by omega) x (.int .i64 x.at_) (fun y hy=>by
  rw[List.getElem?_set] at hy
  simp only[if_true] at hy
  split at hy
  · cases hy;rfl
  · cases hy)
 rw[List.set_set] at h2 h3
 rw[h3,h2,h1];rfl
theorem zB4 (l:List Sl) (k:Nat) (x:Sl):(((zgn l).setIfInBounds (k * 3) (.int .i64 x.gen)).setIfInBounds (k * 3+1) (.bool x.used)).setIfInBounds (k * 3+2) (.int .i64 x.at_)=zgn (l.set k x):=by
 unfold zgn
 rw[sl_set]
 simp
theorem zgt (l:List Sl):(zgn l).size=l.length * 3:=by
 unfold zgn
 rw[List.size_toArray,zcw Sl.cells 3 Sl.len]
theorem Sl.one (x:Sl):∀ u ∈ x.cells,u.oneCell'=true:=by intro u hu;simp only[Sl.cells,List.mem_cons,List.not_mem_nil,or_false] at hu;rcases hu with rfl|rfl|rfl <;> rfl
theorem zj3 (l:List Sl):(zgn l).all (·.oneCell')=true:=by
 unfold zgn
 rw[List.all_toArray,List.all_eq_true]
 exact zd2 Sl.one l
def zbx:Array Value:=zgn (List.replicate 16 noSl)
theorem zfv:zbx.size=48:=by unfold zbx;rw[zgt,List.length_replicate]
theorem zkw:zbx.all (·.oneCell')=true:=zj3 _
theorem zmt (w:World):(zeroValue 118).run Tryz.prog w=.ok (.agg zbx) w:=by kernel_rfl
theorem zLl (w:World):(Instr.build 118 #[]).run Tryz.prog w=.ok (.agg zbx) w:=by kernel_rfl
theorem zjc:(Tryz.prog.info? 118).map (·.size)=some 48:=by kernel_rfl
end Go.Proofs.YtpcajamacpbjcaaGreat
namespace Go.Proofs.YtpcajamacpbjcaaGreat
open Lib (hid)
open Go.RowKit
theorem zku (l:List Sl) {j:Nat} (h:j<l.length * 3):∃ u,(zgn l)[j]? = some u:=by
 have:=zgt l
 exact ⟨_,Array.getElem?_eq_getElem (by omega)⟩
theorem zi4 {fn:Func} {p q:Tmp} (h:fn.results=#[.cell p 118,.tmp q]) (tmps:Array Value) {W:World} {g:Nat} {t:TypeId} {cs:Array Value} {u:Value} (hb:Bx W g t cs) (hs:cs.size=48) (hp:tmps.getD p undef=.pointer (some ⟨g,0,none⟩)) (hq:tmps.getD q undef=u) :
  (results fn tmps).run Tryz.prog W=.ok (.tuple #[.agg cs,u]) W:=by
 have hp':tmps[p]?.getD undef=.pointer (some ⟨g,0,none⟩):=by simpa using hp
 have hq':tmps[q]?.getD undef=u:=by simpa using hq
 have hi:(Tryz.prog.info? 118).map (·.size)=some cs.size:=by rw[hs];exact zjc
 have hl:=run_loadVar_row W g t 118 cs (0,0) _ hb Tryz.underlying118 rfl hi
 simp[results,h,hp',hq',asAddr,hl]
def opV (ws:List Nat):Value:=.agg (if zdi ws=0 then zgn (slL ws) else zbx)
theorem zJv {ws:List Nat} (h:zdi ws=0):opV ws=.agg (zgn (slL ws)):=by simp[opV,h]
theorem zFb {ws:List Nat} (h:zdi ws≠0):opV ws=.agg zbx:=by simp[opV,h]
set_option maxRecDepth 100000 in
set_option maxHeartbeats 4000000 in
theorem zA9 (A:Option Addr) (ws:List Nat) (c n:Nat) (w:World) (hn:ws.length=n) (hm:n≤9223372036854775807) (hr:RdW w w.heap.size A ws) (ho:∀ x ∈ ws,x<18446744073709551616) :
   Calls Tryz.prog 64 #[.slice A n c] w fun e w'=>e=.returned (.tuple #[opV ws,.int .i64 (zdi ws)])∧Below w.heap.size w w':=by
 subst hn
 have HR:=hid hr
 have HLT:Hid (∀ k,wd ws k<18446744073709551616):=hid (ze6 ho)
 have hzv:=zmt
 have hbv:=zLl
 have hz8:=zfv
 have hz1:=hid zkw
 have hit:=zjc
 have b0:=Bx.new w 118 zbx
 have hb0:=(Below.refl w.heap.size w).alloc (Nat.le_refl _) (.cells zbx 118)
 clear hr ho
 cases hs:zah (ws.length:Int)
 · have HI:=hid (zbw hs)
   have he:=zxa hs
   have HV:=hid (And.intro he (zFb (by rw[he];omega)))
   have HB0:=hid b0
   have HBB:=hid hb0
   rw[←hz8] at hit
   have hi48:=hit
   clear hs he b0 hb0 hit
   go_enter Tryz.func64,Tryz.ntmps64
   go_wp2_with fail
   refine (zay A ws.length c _ hm).mono ?_
   rintro e w1 ⟨rfl,rfl⟩
   rw[HI.out]
   go_wp2_with (first
    | ((with_reducible refine zbu 118 (.tmp 2) _ ?_);refine zai rfl _ _ _ rfl w.heap.size 118 zbx zbx (by rfl) (by rfl) HB0.out rfl hi48 hz1.out ?_;intro w3 hb3 ha3;have HB3:=hid hb3;have HA3:=hid ha3;clear hb3 ha3))
   exact bodyPost_ret (v:=.tuple #[.agg zbx,.int .i64 8]) (zi4 Tryz.results64 _ HB3.out hz8 rfl rfl) rfl ⟨by rw[HV.out.1,HV.out.2],HA3.out.below HBB.out (Nat.le_refl _)⟩
 · have HI:=hid (zbc hs)
   obtain ⟨hb1,hb2,-⟩:=zf5 ws hs
   have HS:=hid hs
   obtain ⟨b,off,rfl,hb,-⟩:=RdW.at_ HR.out (show 0<ws.length by omega)
   have HCL:Hid (∀ k (h:k<ws.length) (W:World),Below w.heap.size w W→W.cell? ⟨b,off+k,none⟩=some (.int .u64 (wd ws k:Int))):=hid fun k h W hB=>by
    obtain ⟨b',off',e',-,h0⟩:=RdW.at_ (Rd.below HR.out hB) h
    cases e'
    rw[←zcb] at h0
    exact h0
   have HB0:=hid b0
   have HBB:=hid hb0
   rw[←hz8] at hit
   have hi48:=hit
   clear hs b0 hb0 hit
   go_enter Tryz.func64,Tryz.ntmps64
   go_wp2_with fail
   refine (zay _ ws.length c _ hm).mono ?_
   rintro e w1 ⟨rfl,rfl⟩
   rw[HI.out]
   go_wp2_with fail
   go_loopw [15] (fun i wr=>∃ k:Nat,k≤16∧i=.int .i64 k∧Hid (znx ws k)∧Bx wr w.heap.size 118 zbx∧Bx wr (w.heap.size+1) 118 (zgn (zjt ws k))∧Below w.heap.size w wr) (fun i _=>16 - (intOf i).toNat)
   case atStart =>
    have x1:=Bx.new (w.alloc (.cells zbx 118)) 118 zbx
    rw[World.size_alloc] at x1
    exact ⟨0,Nat.zero_le _,rfl,zo4 ws,HB0.out.alloc _,by rw[zwl];exact x1,HBB.out.alloc (by simp) _⟩
   case round =>
    obtain ⟨k,hk,rfl,HOK,q0,q1,hB⟩:=hrel
    have hz:=hB.size
    have Q0:=hid q0
    have Q1:=hid q1
    by_cases hlt:k<16
    · have h0:=HCL.out (112+k) (by omega) _ hB
      have HSP:=hid (fun W=>zF6 (wd ws (112+k)) W (HLT.out _))
      have HSU:=hid (fun h=>zoe HOK.out h)
      have HBD:=hid (fun h=>zk0 HS.out (zrs hlt h))
      have hsa:zdj (wd ws (112+k))=slAt ws k:=rfl
      have HPS:=hid (zwe ws k hlt)
      have hsz:=zh2 ws k
      obtain ⟨u0,hu0⟩:=zku (zjt ws k) (j:=k * 3) (by omega)
      obtain ⟨u1,hu1⟩:=zku (zjt ws k) (j:=k * 3+1) (by omega)
      obtain ⟨u2,hu2⟩:=zku (zjt ws k) (j:=k * 3+2) (by omega)
      have i1:(0:Int)≤112+(k:Int):=by omega
      have i2:(112:Int)+(k:Int)<(ws.length:Int):=by omega
      have n1:((112:Int)+(k:Int)).toNat=112+k:=by omega
      have hk1:(k:Int)<16:=by omega
      have hk0:(0:Int)≤(k:Int):=by omega
      obtain ⟨x,hx⟩:∃ x,wd ws (112+k)=x:=⟨_,rfl⟩
      rw[hx] at h0 HSP hsa
      cases hso:znd (slAt ws k)
      · have he:=HBD.out hso
        have HV:=hid (And.intro he (zFb (by rw[he];omega)))
        rw[←hsa] at hso
        rw[(zw7 hso).1,(zw7 hso).2] at HSP
        unfold Sl.val at HSP
        dsimp only at HSP
        clear hx hso he hsa HBD HSU q0 q1 hu0 hu1 hu2
        go_wp2_with fail
        refine (HSP.out _).mono ?_
        rintro e w3 ⟨rfl,hB3⟩
        have q3:=hid (Q0.out.up hB3 Q0.out.lt)
        have HB3:=hid (hB.trans (hB3.mono hz))
        clear hB3
        go_wp2_with (first
         | ((with_reducible refine zbu 118 (.tmp 2) _ ?_);refine zai rfl _ _ _ rfl w.heap.size 118 zbx zbx (by rfl) (by rfl) (q3.out.alloc _) rfl hi48 hz1.out ?_;intro w4 hb4 ha4;have HB4:=hid hb4;have HA4:=hid ha4;clear hb4 ha4))
        exact bodyPost_ret (v:=.tuple #[.agg zbx,.int .i64 50]) (zi4 Tryz.results64 _ HB4.out hz8 rfl rfl) rfl ⟨by rw[HV.out.1,HV.out.2],HA4.out.below (HB3.out.alloc HB3.out.size _) (Nat.le_refl _)⟩
      · have HSU2:=hid (HSU.out hso)
        rw[←hsa] at hso
        rw[(zyn hso).1,(zyn hso).2,hsa] at HSP
        have hset:=zB4 (zjt ws k) k (slAt ws k)
        rw[←HPS.out] at hset
        have HSET:=hid hset
        obtain ⟨s,hs2⟩:∃ s,slAt ws k=s:=⟨_,rfl⟩
        rw[hs2] at HSP HSET
        obtain ⟨sg,su,sa⟩:=s
        unfold Sl.val at HSP
        dsimp only at HSP HSET
        clear hx hso hsa hs2 hset HBD HSU q0 q1
        go_wp2_with fail
        refine (HSP.out _).mono ?_
        rintro e w3 ⟨rfl,hB3⟩
        have q3:=Q1.out.up hB3 Q1.out.lt
        have Q3:=hid q3
        have Q4:=hid (Q0.out.up hB3 Q0.out.lt)
        have hg3:=q3.lt
        have d0:=(q3.cell (k * 3)).trans hu0
        have d1:=(q3.cell (k * 3+1)).trans hu1
        have d2:=(q3.cell (k * 3+2)).trans hu2
        have f0:=q3.frozen (k * 3)
        have f1:=q3.frozen (k * 3+1)
        have f2:=q3.frozen (k * 3+2)
        have HB3:=hid (hB.trans (hB3.mono hz))
        clear hB3 q3 hu0 hu1 hu2
        go_wp2_with fail
        go_roundw
        case rel =>
         refine ⟨k+1,by omega,by go_num,HSU2.out,(((Q4.out.far (by simp) _).far (by simp) _).far (by simp) _).alloc _,?_,(((HB3.out.setCell (by simp) _).setCell (by simp) _).setCell (by simp) _).alloc (by simpa using HB3.out.size) _⟩
         rw[←HSET.out]
         exact (((Q3.out.set_ (k * 3) _).set_ (k * 3+1) _).set_ (k * 3+2) _).alloc _
        case measure=>simp[intOf];omega
    · obtain rfl:k=16:=by omega
      have hok:=zf3 HS.out ((zb9 ws).2 HOK.out)
      have HV:=hid (And.intro hok.1 (zJv hok.1))
      rw[zD1] at q1
      have hs48:(zgn (slL ws)).size=48:=by rw[zgt,zcy]
      obtain ⟨cs,hcs⟩:∃ cs,zgn (slL ws)=cs:=⟨_,rfl⟩
      have h1:cs.all (·.oneCell')=true:=by rw[←hcs];exact zj3 _
      have H1:=hid h1
      rw[hcs] at q1 HV hs48
      have Q5:=hid q1
      have hic:(Tryz.prog.info? 118).map (·.size)=some cs.size:=by rw[hs48];exact zjc
      have hss:cs.size=zbx.size:=by rw[hs48,hz8]
      clear q0 q1 hok hcs h1
      go_wp2_with (first
        | ((with_reducible refine zh9 118 (.tmp 5) ?_);refine wpList_load_row rfl _ _ rfl (w.heap.size+1) (by rfl) 118 cs (0,0) _ Q5.out Tryz.underlying118 (by rfl) hic ?_)
        | ((with_reducible refine zbu 118 (.tmp 2) _ ?_);refine zai rfl _ _ _ rfl w.heap.size 118 zbx cs (by rfl) (by rfl) Q0.out hss hic H1.out ?_;intro w4 hb4 ha4;have HB4:=hid hb4;have HA4:=hid ha4;clear hb4 ha4))
      exact bodyPost_ret (v:=.tuple #[.agg cs,.int .i64 0]) (zi4 Tryz.results64 _ HB4.out hs48 rfl rfl) rfl ⟨by rw[HV.out.1,HV.out.2],HA4.out.below hB (Nat.le_refl _)⟩
theorem Rd.of_box {w:World} {g B:Nat} {t:TypeId} {cs:Array Value} (h:Bx w g t cs) (hg:g<B):Rd w B (some ⟨g,0,none⟩) cs.toList:=fun _ =>
 ⟨g,0,rfl,hg,fun j hj=>by
  rw[Nat.zero_add,h.cell j]
  simp⟩
def RdS (w:World) (B:Nat) (A:Option Addr) (l:List Sl):Prop:=Rd w B A (l.flatMap Sl.cells)
theorem RdS.at_ {w:World} {B:Nat} {A:Option Addr} {l:List Sl} (h:RdS w B A l) {k:Nat} (hk:k<l.length) :
  ∃ b off,A=some ⟨b,off,none⟩∧b<B∧w.cell? ⟨b,off+k * 3,none⟩=some (.int .i64 l[k].gen)∧w.cell? ⟨b,off+k * 3+1,none⟩=some (.bool l[k].used)∧w.cell? ⟨b,off+k * 3+2,none⟩=some (.int .i64 l[k].at_):=by
 obtain ⟨b,off,e,hb,hc⟩:=Rd.at_flat Sl.len h (by omega) hk
 exact ⟨b,off,e,hb,hc 0 (by omega),hc 1 (by omega),hc 2 (by omega)⟩
def zHh (ws:List Nat) (e:Ending) (w':World):Prop:=∃ A c,e=.returned (.tuple #[.slice A (zer ws).length c,.int .i64 (zdi ws)])∧RdS w' w'.heap.size A (zer ws)∧(zer ws).length≤c
set_option maxRecDepth 100000 in
set_option maxHeartbeats 4000000 in
theorem zwa (A:Option Addr) (ws:List Nat) (c n:Nat) (w:World) (hn:ws.length=n) (hm:n≤9223372036854775807) (hr:RdW w w.heap.size A ws) (ho:∀ x ∈ ws,x<18446744073709551616) :
   Calls Tryz.prog 25 #[.slice A n c] w fun e w'=>zHh ws e w'∧Below w.heap.size w w':=by
 have HC:=hid (zA9 A ws c n w hn hm hr ho)
 clear hr ho hn hm
 have hz8:=zfv
 by_cases h0:zdi ws=0
 · have hout:zer ws=slL ws:=by simp[zer,h0]
   have HO:=hid (And.intro h0 hout)
   have hl:=zcy ws
   rw[h0,zJv h0] at HC
   have hs48:(zgn (slL ws)).size=48:=by rw[zgt,zcy]
   obtain ⟨l,hl2⟩:∃ l,slL ws=l:=⟨_,rfl⟩
   rw[hl2] at hs48 HC hl HO
   have HCS:Hid (zgn l=(l.flatMap Sl.cells).toArray):=hid rfl
   have H1:=hid (zj3 l)
   have HL:=hid hl
   obtain ⟨cs,hcs⟩:∃ cs,zgn l=cs:=⟨_,rfl⟩
   rw[hcs] at HC hs48 HCS H1
   have hic:(Tryz.prog.info? 118).map (·.size)=some cs.size:=by rw[hs48];exact zjc
   clear h0 hout hl2 hcs hl hz8
   go_enter Tryz.func25,Tryz.ntmps25
   go_wp2_with fail
   refine HC.out.mono ?_
   rintro e w1 ⟨rfl,hB1⟩
   have hzv:=zmt
   have hss:cs.size=zbx.size:=by rw[hs48,zfv]
   have bz:=Bx.new w1 118 zbx
   have BZ:=hid bz
   have HB1:=hid (hB1.alloc hB1.size (.cells zbx 118))
   have hz1:=hB1.size
   clear bz hB1
   go_wp2_with (first
    | ((with_reducible refine zbu 118 (.tmp 4) _ ?_);refine zai rfl _ _ _ rfl w1.heap.size 118 zbx cs (by rfl) (by rfl) BZ.out hss hic H1.out ?_;intro w4 hb4 ha4;have HB4:=hid hb4;have HA4:=hid (ha4.below HB1.out hz1);clear hb4 ha4))
   go_ret2
   refine ⟨⟨some ⟨w1.heap.size,0,none⟩,16,by rw[HO.out.1,HO.out.2,HL.out];rfl,?_,by rw[HO.out.2,HL.out];omega⟩,HA4.out⟩
   rw[HO.out.2]
   have:=HB4.out
   rw[HCS.out] at this
   exact Rd.of_box this this.lt
 · have hout:zer ws=[]:=by simp[zer,h0]
   have HO:=hid hout
   rw[zFb h0] at HC
   obtain ⟨r,hr⟩:∃ r,zdi ws=r:=⟨_,rfl⟩
   have HE:=hid hr
   rw[hr] at HC h0
   have hrn:(r != 0)=true:=by rw[bne_iff_ne];exact h0
   have hz1:=hid zkw
   have hic:(Tryz.prog.info? 118).map (·.size)=some zbx.size:=by rw[hz8];exact zjc
   clear h0 hout hr hz8
   go_enter Tryz.func25,Tryz.ntmps25
   go_wp2_with fail
   refine HC.out.mono ?_
   rintro e w1 ⟨rfl,hB1⟩
   have hzv:=zmt
   have bz:=Bx.new w1 118 zbx
   have BZ:=hid bz
   have HB1:=hid (hB1.alloc hB1.size (.cells zbx 118))
   have hz1':=hB1.size
   clear bz hB1
   go_wp2_with (first
    | ((with_reducible refine zbu 118 (.tmp 4) _ ?_);refine zai rfl _ _ _ rfl w1.heap.size 118 zbx zbx (by rfl) (by rfl) BZ.out rfl hic hz1.out ?_;intro w4 hb4 ha4;have HB4:=hid hb4;have HA4:=hid (ha4.below HB1.out hz1');clear hb4 ha4))
   go_ret2
   exact ⟨⟨none,0,by rw[HE.out,HO.out];rfl,by rw[HO.out];exact Rd.nil_,by rw[HO.out];exact Nat.le_refl _⟩,HA4.out⟩
end Go.Proofs.YtpcajamacpbjcaaGreat
namespace Go.Proofs.YtpcajamacpbjcaaGreat
open Lib (hid)
open Go.RowKit
def zlh (H:Nat) (a b:Nat) (e:Ending) (w':World):Prop:=∃ A c,e=.returned (.tuple #[.slice A (zbd a b).length c,.int .i64 (zef a b)])∧w'.ownsRow H 5 1 (.slice A (zbd a b).length c) (zbd a b).length ((zbd a b).flatMap zbg)
theorem zkc {H a b:Nat} {w':World} (h:zb7 a b=false):zlh H a b (.returned (.tuple #[.slice none 0 0,.int .i64 50])) w':=by
 have h1:zbd a b=[]:=by simp[zbd,h]
 have h2:zef a b=50:=by simp[zef,h]
 exact ⟨none,0,by rw[h1,h2];rfl,by rw[h1];exact World.ownsRow_nil _ _ _ _⟩
theorem zw6 {H:Nat} {a b:Nat} {v:Value} {w':World} (h0:zb7 a b=true) (h:w'.ownsRow H 5 1 v (zc9 a).length ((zc9 a).flatMap zbg)):zlh H a b (.returned (.tuple #[v,.int .i64 0])) w':=by
 have h1:zbd a b=zc9 a:=by simp[zbd,h0]
 have h2:zef a b=0:=by simp[zef,h0]
 obtain ⟨A,c,rfl⟩:=zbb h
 exact ⟨A,c,by rw[h1,h2],by rw[h1];exact h⟩
set_option maxRecDepth 100000 in
set_option maxHeartbeats 2000000 in
theorem zvy (a b:Nat) (w:World) (ha:a<18446744073709551616) (hb:b<18446744073709551616) :
   Calls Tryz.prog 117 #[.int .u64 (a:Int),.int .u64 (b:Int)] w fun e w'=>zlh w.heap.size a b e w'∧Below w.heap.size w w':=by
 have HT:=hid (zjb a b)
 have ha0:(0:Int)≤(a:Int):=by omega
 have e1:=(ztf a ha).1
 have HFL:=hid (zet a)
 have HFG:=hid (fun k h=>zpq a k h)
 have HBT:=hid (fun k=>zun a k ha)
 have hm:a % 256<256:=Nat.mod_lt _ (by omega)
 obtain ⟨m,hmm⟩:∃ m,a % 256=m:=⟨_,rfl⟩
 rw[hmm] at e1 HFL HFG HT hm
 by_cases h8:8<m
 · have HB:=hid (show zb7 a b=false by rw[HT.out,show decide (m≤8)=false by rw[decide_eq_false_iff_not];omega];rfl)
   clear hmm ha hb
   go_enter Tryz.func117,Tryz.ntmps117
   go_wp2_with fail
   go_ret2
   exact ⟨zkc HB.out,Below.refl _ _⟩
 · have h8':m≤8:=by omega
   rw[show decide (m≤8)=true by rw[decide_eq_true_iff];exact h8'] at HT
   have hx0:(0:Int)≤(m:Int):=by omega
   have HA:=hid ha
   have HB:=hid hb
   have d8:decide ((8:Int)<(m:Int))=false:=by rw[decide_eq_false_iff_not];omega
   clear hmm ha hb h8 hm
   obtain ⟨i0,hi,hz0,hz1,hz2⟩:=info_parts zjj
   have HI:=hid hi
   have HZ0:=hid hz0
   have HZ1:=hid hz1
   have HZ2:=hid hz2
   clear hi hz0 hz1 hz2
   go_enter Tryz.func117,Tryz.ntmps117
   go_wp2_with fail
   go_loopw [7,16] (fun v i wr=>∃ k:Nat,k≤m∧i=.int .u64 k∧wr.ownsRow w.heap.size 5 1 v k (((zc9 a).take k).flatMap zbg)∧Below w.heap.size w wr) (fun _ i _=>m - (intOf i).toNat)
   case atStart=>exact ⟨0,Nat.zero_le _,rfl,World.ownsRow_nil _ _ _ _,Below.refl _ _⟩
   case round =>
    obtain ⟨k,hk,rfl,hown,hB⟩:=hrel
    have hz:=hB.size
    by_cases hlt:k<m
    · have hbt:=HBT.out k
      have hg:=HFG.out k hlt
      obtain ⟨x,hx⟩:∃ x,a / 4 ^ (k+4) % 4=x:=⟨_,rfl⟩
      have hx3:x<4:=by rw[←hx];exact Nat.mod_lt _ (by omega)
      rw[hx] at hbt hg
      have HFL2:=hid (show ((zc9 a).take (k+1)).flatMap zbg=((zc9 a).take k).flatMap zbg++[.int .u8 (x:Int)] by
        have hl:k<(zc9 a).length:=by rw[HFL.out];exact hlt
        rw[List.take_succ_eq_append_getElem hl,zb6]
        rw[List.getElem?_eq_getElem hl] at hg
        rw[Option.some.inj hg];rfl)
      have hxi:(x:Int)<4:=by omega
      have hx00:(0:Int)≤(x:Int):=by omega
      have hki:(k:Int)<(m:Int):=by omega
      clear hx hg
      go_wp2_with (at_builtin;refine wpList_append_own _ rfl _ _ 113 rfl w.heap.size 5 i0 _ 1 1 Tryz.underlying113 HI.out HZ0.out HZ1.out HZ2.out rfl (by decide) _ _ _ rfl (hown.alloc _) ⟨_,0,none⟩ 1 1 [.int .u8 (x:Int)] rfl rfl (zcl _ _ _) (by simp[Value.oneCell']) (by unfold maxLen;omega) (by omega) (zcq hB.size) ?_;intro v1 w1 hown1 hg1 _;have hB1:=zaw hB hB.size hown hg1)
      go_roundw
      case rel=>exact ⟨k+1,by omega,by go_num,by rw[HFL2.out];exact hown1,hB1⟩
      case measure=>simp[intOf];omega
    · obtain rfl:k=m:=by omega
      rw[List.take_of_length_le (by rw[HFL.out];exact Nat.le_refl _)] at hown
      obtain ⟨A1,c1,rfl⟩:=zbb hown
      have HC:=hid (zvx A1 (zc9 a) c1 k wr HFL.out (by omega) (Rd.of_own hown))
      have hlen8:(zc9 a).length≤8:=by rw[HFL.out];exact h8'
      cases hkn:zdk (zc9 a)
      · have HKE:=hid (zkr hlen8 hkn)
        have HN:=hid (show zb7 a b=false by rw[HT.out,hkn];rfl)
        have HV:=hid (show kwV (zc9 a)=.agg #[.int .u64 0,.int .u64 0] by simp[kwV,HKE.out,zB2])
        rw[HKE.out,HV.out] at HC
        clear hkn hlen8 hown
        go_wp2_with fail
        refine HC.out.mono ?_
        rintro e w1 ⟨rfl,hB1⟩
        have hb1:=hB.trans (hB1.mono hz)
        go_wp2_with fail
        go_ret2
        exact ⟨zkc HN.out,hb1.alloc hb1.size _⟩
      · have HKE:=hid (zh8 hlen8 hkn)
        have HV:=hid (show kwV (zc9 a)=.agg #[.int .u64 (zgu (zc9 a):Nat),.int .u64 (zgi (zgu (zc9 a)):Nat)] by simp[kwV,HKE.out,zB2])
        have HT2:=hid (show zb7 a b=(zgu (zc9 a) == a && zgi (zgu (zc9 a)) == b) by
          rw[HT.out,hkn]
          by_cases h:zgu (zc9 a)=a
          · rw[h];simp
          · rw[show (zgu (zc9 a) == a)=false by rw[beq_eq_false_iff_ne];exact h];simp only[Bool.false_and,Bool.and_false])
        rw[HKE.out,HV.out] at HC
        obtain ⟨p,hp⟩:∃ p,zgu (zc9 a)=p:=⟨_,rfl⟩
        obtain ⟨q,hq⟩:∃ q,zgi p=q:=⟨_,rfl⟩
        rw[hp,hq] at HC HT2
        clear hkn hlen8 hp hq
        by_cases hpa:p=a
        · by_cases hqb:q=b
          · have HY:=hid (show zb7 a b=true by rw[HT2.out,hpa,hqb];simp)
            have hq1:=zop p q a b
            rw[show ((p:Int) == (a:Int))=true by rw[beq_iff_eq];omega,show ((q:Int) == (b:Int))=true by rw[beq_iff_eq];omega,Bool.and_self] at hq1
            clear hpa hqb
            go_wp2_with fail
            refine HC.out.mono ?_
            rintro e w1 ⟨rfl,hB1⟩
            have hb1:=hB.trans (hB1.mono hz)
            have hown1:=zak hown hB1 (Nat.le_refl _)
            go_wp2_with fail
            go_ret2
            refine ⟨zw6 HY.out (H:=w.heap.size) ?_,hb1.alloc hb1.size _⟩
            rw[HFL.out];exact hown1.alloc _
          · have HN:=hid (show zb7 a b=false by rw[HT2.out,show (q == b)=false by rw[beq_eq_false_iff_ne];exact hqb,Bool.and_false])
            have hq1:=zop p q a b
            rw[show ((q:Int) == (b:Int))=false by rw[beq_eq_false_iff_ne];omega,Bool.and_false] at hq1
            clear hpa hqb hown
            go_wp2_with fail
            refine HC.out.mono ?_
            rintro e w1 ⟨rfl,hB1⟩
            have hb1:=hB.trans (hB1.mono hz)
            go_wp2_with fail
            go_ret2
            exact ⟨zkc HN.out,hb1.alloc hb1.size _⟩
        · have HN:=hid (show zb7 a b=false by rw[HT2.out,show (p == a)=false by rw[beq_eq_false_iff_ne];exact hpa,Bool.false_and])
          have hq1:=zop p q a b
          rw[show ((p:Int) == (a:Int))=false by rw[beq_eq_false_iff_ne];omega,Bool.false_and] at hq1
          clear hpa hown
          go_wp2_with fail
          refine HC.out.mono ?_
          rintro e w1 ⟨rfl,hB1⟩
          have hb1:=hB.trans (hB1.mono hz)
          go_wp2_with fail
          go_ret2
          exact ⟨zkc HN.out,hb1.alloc hb1.size _⟩
def zH7 (H:Nat) (a b:Nat) (e:Ending) (w':World):Prop:=∃ A c,e=.returned (.tuple #[.slice A (zbd a b).length c,.bool (zb7 a b)])∧w'.ownsRow H 5 1 (.slice A (zbd a b).length c) (zbd a b).length ((zbd a b).flatMap zbg)
set_option maxRecDepth 100000 in
set_option maxHeartbeats 2000000 in
theorem zx6 (A:Option Addr) (ws:List Nat) (c n t:Nat) (w:World) (hn:ws.length=n) (hm:n≤1000000) (h2:256≤n) (ht:t<8) (hr:RdW w w.heap.size A ws) (ho:∀ x ∈ ws,x<18446744073709551616) :
  Calls Tryz.prog 110 #[.slice A n c,.int .i64 (t:Int)] w fun e w'=>zH7 w.heap.size (wd ws (96+2 * t)) (wd ws (96+2 * t+1)) e w'∧Below w.heap.size w w':=by
 subst hn
 have hx:=ze6 ho (96+2 * t)
 have hy:=ze6 ho (96+2 * t+1)
 have HC:=hid (fun W=>zvy (wd ws (96+2 * t)) (wd ws (96+2 * t+1)) W hx hy)
 have HK:=hid (zlz (wd ws (96+2 * t)) (wd ws (96+2 * t+1)))
 obtain ⟨b,off,rfl,hb,h0⟩:=RdW.at_ hr (show 96+2 * t<ws.length by omega)
 obtain ⟨b',off',e',-,h1⟩:=RdW.at_ hr (show 96+2 * t+1<ws.length by omega)
 cases e'
 rw[←zcb] at h0 h1
 obtain ⟨x,hx2⟩:∃ x,wd ws (96+2 * t)=x:=⟨_,rfl⟩
 obtain ⟨y,hy2⟩:∃ y,wd ws (96+2 * t+1)=y:=⟨_,rfl⟩
 rw[hx2] at h0 HC HK ⊢
 rw[hy2] at h1 HC HK ⊢
 have t0:(0:Int)≤(t:Int):=by omega
 have t8:(t:Int)<8:=by omega
 have w1:IntKind.i64.wrap (2 * (t:Int))=2 * (t:Int):=IntWalk.i64_in _ (by omega)
 have w2:IntKind.i64.wrap (96+2 * (t:Int))=96+2 * (t:Int):=IntWalk.i64_in _ (by omega)
 have w3:IntKind.i64.wrap (96+2 * (t:Int)+1)=96+2 * (t:Int)+1:=IntWalk.i64_in _ (by omega)
 have i1:(0:Int)≤96+2 * (t:Int):=by omega
 have i2:(96:Int)+2 * (t:Int)<(ws.length:Int):=by omega
 have i3:(0:Int)≤96+2 * (t:Int)+1:=by omega
 have i4:(96:Int)+2 * (t:Int)+1<(ws.length:Int):=by omega
 have n1:((96:Int)+2 * (t:Int)).toNat=96+2 * t:=by omega
 have n2:((96:Int)+2 * (t:Int)+1).toNat=96+2 * t+1:=by omega
 clear hr hx hy hx2 hy2 ho ht
 go_enter Tryz.func110,Tryz.ntmps110
 go_wp2_with fail
 go_region_held3 (fun X:World=>X.cell? ⟨b,off+(96+2 * t),none⟩=some (.int .u64 (x:Int))∧X.cell? ⟨b,off+(96+2 * t+1),none⟩=some (.int .u64 (y:Int))) (go_keep)
  (first | (go_at_call 117;refine (HC.out _).mono ?_;rintro e w5 ⟨⟨A1,c1,rfl,hrd⟩,hB5⟩;have m0:=(hB5.cell (p:=⟨b,off+(96+2 * t),none⟩) hb).trans h0;have m1:=(hB5.cell (p:=⟨b,off+(96+2 * t+1),none⟩) hb).trans h1;have HRD:=hid hrd;clear hrd))
 go_wp2_with fail
 go_ret2
 exact ⟨⟨A1,c1,by rw[HK.out];rfl,HRD.out⟩,(Below.refl _ _).drew.trans hB5⟩
end Go.Proofs.YtpcajamacpbjcaaGreat
namespace Go.Proofs.YtpcajamacpbjcaaGreat
open Lib (hid)
open Go.RowKit
def zfp (x:Nat):List Value:=[.int .i64 (x:Int)]
def zbr (x:Bool):List Value:=[.bool x]
theorem zq7 (x:Nat):(zfp x).length=1:=rfl
theorem zfn (x:Bool):(zbr x).length=1:=rfl
theorem zB1 (n:Nat):(List.replicate n (0:Int)).flatMap zcf=List.replicate n (.int .i64 0):=by
 induction n with
 | zero=>rfl
 | succ n ih=>rw[List.replicate_succ,List.flatMap_cons,ih,List.replicate_succ];rfl
theorem zwh (n:Nat):(List.replicate n false).flatMap zbr=List.replicate n (.bool false):=by
 induction n with
 | zero=>rfl
 | succ n ih=>rw[List.replicate_succ,List.flatMap_cons,ih,List.replicate_succ];rfl
theorem zHf (l:List Int) (k:Nat) (x:Int):(l.set k x).flatMap zcf=(l.flatMap zcf).set k (.int .i64 x):=by
 have:=ze9 zcf 1 zif l k 0 (by omega) x (.int .i64 x) (fun y _=>rfl)
 simpa using this
theorem zAd (l:List Bool) (k:Nat) (x:Bool):(l.set k x).flatMap zbr=(l.flatMap zbr).set k (.bool x):=by
 have:=ze9 zbr 1 zfn l k 0 (by omega) x (.bool x) (fun y _=>rfl)
 simpa using this
theorem zl2 (l:List Int) (k:Nat) (h:k<l.length):(l.flatMap zcf)[k]? = some (.int .i64 (l[k]?.getD 0)):=by
 have:=zhf zcf 1 zif l k 0 h (by omega)
 simpa [zcf,h] using this
theorem zrg (l:List Bool) (k:Nat) (h:k<l.length):(l.flatMap zbr)[k]? = some (.bool (l[k]?.getD false)):=by
 have:=zhf zbr 1 zfn l k 0 h (by omega)
 simpa [zbr,h] using this
theorem zGo:(Tryz.prog.info? 3).map (fun i=>(i.zero,i.size,i.bytes))=some (some (.int .i64 0),1,8):=by kernel_rfl
theorem zB3:(Tryz.prog.info? 4).map (fun i=>(i.zero,i.size,i.bytes))=some (some (.bool false),1,1):=by kernel_rfl
open Classical in
theorem zEb {ws:List Nat} (h:zae ws=0) (h1:slsOk ws=true) (h2:zst ws):zap ws=0:=by simp[zap,h,h1,h2]
open Classical in
theorem rc_sl {ws:List Nat} (h:zae ws=0) (h1:slsOk ws=false):zap ws=50:=by simp[zap,h,h1]
open Classical in
theorem zH4 {ws:List Nat} (h:zae ws=0) (h2:¬ zst ws):zap ws=50:=by
 simp[zap,h,h2]
theorem zjk (l:List Nat) (x:Nat):(l++[x]).flatMap zfp=l.flatMap zfp++[.int .i64 (x:Int)]:=by simp[zfp]
theorem zJ6 {w:World} {H n c g:Nat} {e:TypeId} {xs ys:List Value} (h:w.ownsRow H e 1 (.slice (some ⟨g,0,none⟩) (n+1) c) (n+1) (xs++ys)) (hx:xs.length=n):w.ownsRow H e 1 (.slice (some ⟨g,0,none⟩) n c) n xs:=by
 refine ⟨by rw[hx,Nat.mul_one],.inr ?_⟩
 rcases h.2 with ⟨h1,_⟩|⟨g',cap,cur,h1,h2,h3,h4,h5,h6,h7⟩
 · cases h1
 · simp only[Value.slice.injEq,Option.some.injEq,Addr.mk.injEq,and_true,true_and] at h1
   obtain ⟨rfl,rfl⟩:=h1
   refine ⟨g,c,cur,rfl,h2,h3,by omega,h5,h6,?_⟩
   have h8:=congrArg (List.take n) h7
   rw[List.take_take,Nat.mul_one,Nat.min_eq_left (by omega),List.take_left' hx] at h8
   rw[Nat.mul_one];exact h8
theorem zfo {w:World} {H n c:Nat} {e:TypeId} {sz:Nat} {A:Option Addr} {xs:List Value} (h:w.ownsRow H e sz (.slice A n c) n xs):n≤c:=by
 obtain ⟨A',c',hv,hle,-⟩:=zir h
 cases hv;exact hle
theorem zIo {w:World} {H n c g:Nat} {e:TypeId} {sz:Nat} {xs:List Value} (h:w.ownsRow H e sz (.slice (some ⟨g,0,none⟩) n c) n xs) {p:Addr} (hp:g≠p.block) (u:Value):(w.setCell p u).ownsRow H e sz (.slice (some ⟨g,0,none⟩) n c) n xs:=by
 refine ⟨h.1,?_⟩
 rcases h.2 with ⟨h1,_⟩|⟨g',cap,cur,h1,h2,h3,h4⟩
 · cases h1
 · refine .inr ⟨g',cap,cur,h1,h2,?_,h4⟩
   simp only[Value.slice.injEq,Option.some.injEq,Addr.mk.injEq,and_true,true_and] at h1
   obtain ⟨rfl,rfl⟩:=h1
   exact (Below.heap_setCell w p u g hp).trans h3
def zK2 (ws:List Nat) (B:Nat) (e:Ending) (w':World):Prop:=
 (zap ws=0∧∃ g c,e=.returned (.tuple #[.slice (some ⟨g,0,none⟩) ws.length c,.int .i64 0])∧w'.ownsRow B 4 1 (.slice (some ⟨g,0,none⟩) ws.length c) ws.length ((seenL ws).flatMap zbr)) ∨
 (zap ws=50∧e=.returned (.tuple #[.slice none 0 0,.int .i64 50]))
set_option maxRecDepth 100000 in
set_option maxHeartbeats 16000000 in
theorem zuu (A L:Option Addr) (ws:List Nat) (c cl n:Nat) (l:List Bk) (w:World) (hn:ws.length=n) (hm:n≤9223372036854775807) (h0:zae ws=0) (hl:zab ws=l) (hr:RdW w w.heap.size A ws) (hrl:RdB w w.heap.size L l) (ho:∀ x ∈ ws,x<18446744073709551616) :
   Calls Tryz.prog 63 #[.slice A n c,.slice L l.length cl] w fun e w'=>zK2 ws w.heap.size e w'∧Below w.heap.size w w':=by
 subst hn
 have HR:=hid hr
 have HL:=hid hrl
 have HO:=hid ho
 obtain ⟨hs,-⟩:=zam h0
 have hbd:=zf5 ws hs
 obtain ⟨hb1,hb2,-⟩:=hbd
 have HLT:Hid (∀ k,wd ws k<18446744073709551616):=hid (ze6 ho)
 have HHA:=hid (zwa A ws c ws.length w rfl hm hr ho)
 unfold zHh at HHA
 have HH0:=hid h0
 clear hr hrl ho
 cases hso:slsOk ws
 · have he:=zk0 hs hso
   have hq:zer ws=[]:=by simp[zer,he]
   rw[he,hq] at HHA
   have HV:=hid (rc_sl h0 hso)
   clear hs hso he hq h0
   go_enter Tryz.func63,Tryz.ntmps63
   go_wp2_with fail
   refine HHA.out.mono ?_
   rintro e w1 ⟨⟨A1,c1,rfl,-,-⟩,hB1⟩
   go_wp2_with fail
   go_ret2
   exact ⟨.inr ⟨HV.out,rfl⟩,hB1⟩
 · obtain ⟨g1,g2⟩:=zf3 hs hso
   rw[g1,g2,zcy] at HHA
   have HSO:=hid hso
   obtain ⟨i0,hi,hz0,hz1,hz2⟩:=info_parts zGo
   obtain ⟨i1,hj,hy0,hy1,hy2⟩:=info_parts zB3
   have HII:=hid (And.intro hi (And.intro hz0 (And.intro hz1 hz2)))
   have HIB:=hid (And.intro hj (And.intro hy0 (And.intro hy1 hy2)))
   have hll:=zib ws
   rw[hl] at hll
   have HHL:=hid hl
   have HOBJ:Hid (∀ k (h:k<l.length),l[k].kind=1→∃ a t:Nat,l[k].at_=(a:Int)∧l[k].typ=(t:Int)∧a<ws.length∧t<128):=hid (by
    subst hl
    intro k h h1
    obtain ⟨a,e1,e2⟩:=ziy h0 h h1
    refine ⟨a,wd ws a / 512 % 128,by rw[e1];rfl,by rw[e1];rfl,e2.2.2.1,Nat.mod_lt _ (by omega)⟩)
   clear hl
   clear hs hso g1 g2 hi hz0 hz1 hz2 hj hy0 hy1 hy2 h0
   go_enter Tryz.func63,Tryz.ntmps63
   go_wp2_with fail
   refine HHA.out.mono ?_
   rintro e w1 ⟨⟨A1,c1,rfl,hrs,-⟩,hB1⟩
   have HS1:=hid hrs
   obtain ⟨W2,hmk,hown0,hg0⟩:=run_make_full (P:=Tryz.prog) w1 w1.heap.size 42 3 i0 (.int .i64 0) 1 Tryz.underlying42 HII.out.1 HII.out.2.1 HII.out.2.2.1 .i64 .i64 ws.length (by rw[HII.out.2.2.2];omega) (by unfold maxLen;omega) (Nat.le_refl _)
   have hTY:W2.ownsRow w1.heap.size 3 1 (.slice (some ⟨w1.heap.size,0,none⟩) ws.length ws.length) ws.length ((zqs ws.length (l.take 0)).flatMap zcf):=by
    show W2.ownsRow _ _ _ _ _ ((List.replicate ws.length (0:Int)).flatMap zcf)
    rw[zB1,←toList_madeCells_one];have:=hown0;rw[Nat.mul_one] at this;exact this
   have hb2':=(Below.refl w1.heap.size w1).grown hg0 (Nat.le_refl _) (fun k hk=>by cases hk)
   have HTY:=hid hTY
   have HB1:=hid hB1
   have HB2:=hid (hB1.trans (hb2'.mono hB1.size))
   have HB12:=hid hb2'
   have HS2X:=hid HS1.out
   have hz1w:=hB1.size
   have hz2w:=hb2'.size
   clear hrs hown0 hg0 hTY hb2' hB1
   go_wp2_with fail
   clear hmk
   go_loopw [34] (fun i wr=>∃ k:Nat,k≤l.length∧i=.int .i64 k∧wr.ownsRow w1.heap.size 3 1 (.slice (some ⟨w1.heap.size,0,none⟩) ws.length ws.length) ws.length ((zqs ws.length (l.take k)).flatMap zcf)∧Below w1.heap.size w1 wr) (fun i _=>l.length - (intOf i).toNat)
   case atStart=>exact ⟨0,Nat.zero_le _,rfl,HTY.out,HB12.out⟩
   case round =>
    obtain ⟨k,hk,rfl,hown,hB⟩:=hrel
    have hz:=hB.size
    by_cases hlt:k<l.length
    · have hBw:=HB1.out.trans (hB.mono hz1w)
      obtain ⟨b,off,rfl,hbw,q0,q1,q2,q3,q4,q5⟩:=RdB.at_ (Rd.below HL.out hBw) hlt
      have HTK:=hid (zA5 (n:=ws.length) hlt)
      have HOB:=hid (HOBJ.out k hlt)
      have htl:=zpx ws.length (l.take k)
      obtain ⟨x,hx⟩:∃ x,l[k]=x:=⟨_,rfl⟩
      obtain ⟨tl,htl2⟩:∃ tl,zqs ws.length (l.take k)=tl:=⟨_,rfl⟩
      rw[hx] at q0 q1 q2 q3 q4 q5 HTK HOB
      rw[htl2] at HTK hown htl
      obtain ⟨xa,xs,xk,xt,xm,xn⟩:=x
      dsimp only at q0 q1 q2 q3 q4 q5 HTK HOB
      have hlm:(k:Int)<(l.length:Int):=by omega
      clear hx htl2
      by_cases hk1:xk=1
      · obtain ⟨a,t,ha,ht,han,ht8⟩:=HOB.out hk1
        subst ha ht
        have hke:(xk == 1)=true:=by rw[beq_iff_eq];exact hk1
        have HT2:=hid (HTK.out.trans (if_pos hk1))
        simp only[Int.toNat_natCast] at HT2
        have hw1:IntKind.i64.wrap ((t:Int)+1)=(t:Int)+1:=IntWalk.i64_in _ (by omega)
        have ha1:(a:Int)<(ws.length:Int):=by omega
        have ha0:(0:Int)≤(a:Int):=by omega
        have hown':=hown.alloc (.cells #[.int .i64 (a:Int),.int .i64 xs,.int .i64 xk,.int .i64 (t:Int),.bool xm,.int .u64 (xn:Int)] 55)
        have c0:=(hown.cellAt a (by omega)).trans (zl2 tl a (by omega))
        have f0:=hown.frozenAt a
        have c0':=(hown'.cellAt a (by omega)).trans (zl2 tl a (by omega))
        have f0':=hown'.frozenAt a
        obtain ⟨u,hu⟩:∃ u,tl[a]?.getD 0=u:=⟨_,rfl⟩
        rw[hu] at c0 c0'
        have hgw:=(hown.lt _ rfl).2
        have HOW:=hid hown
        clear hown'
        clear hk1 hu HTK hown
        go_wp2_with fail
        go_roundw
        case rel =>
          refine ⟨k+1,by omega,by go_num,?_,(hB.setCell (p:=⟨w1.heap.size,a,none⟩) (Nat.le_refl _) _).alloc (by rw[World.size_setCell];exact hz) _⟩
          rw[HT2.out,zHf]
          exact (HOW.out.stored a _).1.alloc _
        case measure=>simp[intOf];omega
      · have hke:(xk == 1)=false:=by rw[beq_eq_false_iff_ne];exact hk1
        have HT2:=hid (HTK.out.trans (if_neg hk1))
        have HOW:=hid hown
        clear hk1 HTK hown
        go_wp2_with fail
        go_roundw
        case rel=>exact ⟨k+1,by omega,by go_num,by rw[HT2.out];exact HOW.out.alloc _,hB.alloc hz _⟩
        case measure=>simp[intOf];omega
    · rename World=>wA
      rw[List.take_of_length_le (by omega)] at hown
      obtain ⟨tl,htl2⟩:∃ tl,zqs ws.length l=tl:=⟨_,rfl⟩
      have htl:=zpx ws.length l
      rw[htl2] at hown htl
      have HTB:Hid (∀ a,tb ws a=tl[a]?.getD 0):=hid fun a=>by unfold tb;rw[HHL.out,htl2]
      have HTY2:=hid hown
      have hBw:=HB1.out.trans (hB.mono hz1w)
      have HBW:=hid hBw
      have hzw:=hBw.size
      have HS3:=hid (Rd.below HS2X.out hB)
      clear htl2 hown hBw
      obtain ⟨W3,hmk,hown0,hg0⟩:=run_make_full (P:=Tryz.prog) wA wA.heap.size 114 4 i1 (.bool false) 1 Tryz.underlying114 HIB.out.1 HIB.out.2.1 HIB.out.2.2.1 .i64 .i64 ws.length (by rw[HIB.out.2.2.2];omega) (by unfold maxLen;omega) (Nat.le_refl _)
      have hSE:W3.ownsRow wA.heap.size 4 1 (.slice (some ⟨wA.heap.size,0,none⟩) ws.length ws.length) ws.length ((List.replicate ws.length false).flatMap zbr):=by
        rw[zwh,←toList_madeCells_one];have:=hown0;rw[Nat.mul_one] at this;exact this
      have HSE:=hid hSE
      have HB3:=hid ((Below.refl wA.heap.size wA).grown hg0 (Nat.le_refl _) (fun k hk=>by cases hk))
      have hgs:wA.heap.size<W3.heap.size:=by have:=hSE.lt wA.heap.size rfl;exact this.2
      clear hown0 hg0 hSE
      go_wp2_with fail
      clear hmk
      go_loopw [12,54] (fun v i w4=>∃ k:Nat,k≤16∧i=.int .i64 k∧w4.ownsRow W3.heap.size 3 1 v (zti ws k).length ((zti ws k).flatMap zfp)∧Below W3.heap.size W3 w4) (fun _ i _=>16 - (intOf i).toNat)
      case atStart=>exact ⟨0,Nat.zero_le _,rfl,World.ownsRow_nil _ _ _ _,Below.refl _ _⟩
      case round =>
        obtain ⟨k2,hk2,rfl,hown,hB4⟩:=hrel
        have hz4:=hB4.size
        have hB34:=HB3.out.trans (hB4.mono (Nat.le_of_lt hgs))
        by_cases hlt2:k2<16
        · obtain ⟨b,off,rfl,hbw,q0,q1,q2⟩:=RdS.at_ (Rd.below HS3.out (hB34.mono hz)) (show k2<(slL ws).length by rw[zcy];exact hlt2)
          rw[zjh] at q0 q1 q2
          have HSS:=hid (zCv ws k2)
          have hsl:=zu7 ws k2
          obtain ⟨-,-,hat0,hat1⟩:=ze8 (wd ws (112+k2))
          have hsa:slAt ws k2=zdj (wd ws (112+k2)):=rfl
          rw[←hsa] at hat0 hat1
          obtain ⟨s,hs2⟩:∃ s,slAt ws k2=s:=⟨_,rfl⟩
          rw[hs2] at q0 q1 q2 HSS hat0 hat1
          obtain ⟨m,hm2⟩:∃ m,zti ws k2=m:=⟨_,rfl⟩
          rw[hm2] at hown HSS hsl
          obtain ⟨sg,su,sa⟩:=s
          dsimp only at q0 q1 q2 HSS hat0 hat1
          obtain ⟨u,rfl⟩:=Int.eq_ofNat_of_zero_le hat0
          rw[Int.toNat_natCast] at HSS
          have hk16:(k2:Int)<16:=by omega
          have hk00:(0:Int)≤(k2:Int):=by omega
          clear hsa hs2 hm2 hB34 hat0
          cases su
          · have HS2:=hid (HSS.out.trans (by simp:m++(if false=true then [u] else [])=m))
            clear HSS
            go_wp2_with fail
            go_roundw
            case rel=>exact ⟨k2+1,by omega,by go_num,by rw[HS2.out];exact hown.alloc _,hB4.alloc hz4 _⟩
            case measure=>simp[intOf];omega
          · have HS2:=hid (show zti ws (k2+1)=m++[u] from HSS.out)
            clear HSS
            go_wp2_with (at_builtin;refine wpList_append_own _ rfl _ _ 42 rfl W3.heap.size 3 i0 _ 1 8 Tryz.underlying42 HII.out.1 HII.out.2.1 HII.out.2.2.1 HII.out.2.2.2 rfl (by decide) _ _ _ rfl ((hown.alloc _).alloc _) ⟨_,0,none⟩ 1 1 [.int .i64 (u:Int)] rfl rfl (zk4 _ _ _ (World.size_alloc _ _)) (by simp[Value.oneCell']) (by unfold maxLen;omega) (by omega) (by simp;omega) ?_;intro v1 w2 hown1 hg1 _;have hB5:=zaw (hB4.alloc hz4 (.cells #[.int .i64 sg,.bool true,.int .i64 (u:Int)] 52)) (by simp;omega) (hown.alloc _) hg1)
            go_roundw
            case rel=>exact ⟨k2+1,by omega,by go_num,by rw[HS2.out,List.length_append,zjk];exact hown1,hB5⟩
            case measure=>simp[intOf];omega
        · obtain rfl:k2=16:=by omega
          have hst:=Wk.start ws
          have hsl:=zu7 ws 16
          obtain ⟨td0,htd0⟩:∃ t,zti ws 16=t:=⟨_,rfl⟩
          rw[htd0] at hst hown hsl
          have HST:=hid hst
          have HOWN:=hid hown
          have HSE4:=hid (zak HSE.out hB4 (Nat.le_refl _))
          have hfl:zmz (List.replicate ws.length false)=ws.length:=by simp[zmz]
          have HFL:=hid hfl
          have HB4:=hid hB34
          clear htd0 hst hown hfl hB34
          go_wp2_with fail
          go_loopg [12] 30000 (fun g v w5=>∃ (seen:List Bool) (todo:List Nat),g≤30000∧Hid (Wk ws seen todo)∧Hid (zmz seen * 9+todo.length≤g)∧w5.ownsRow wA.heap.size 4 1 (.slice (some ⟨wA.heap.size,0,none⟩) ws.length ws.length) ws.length (seen.flatMap zbr)∧w5.ownsRow W3.heap.size 3 1 v todo.length (todo.flatMap zfp)∧W3.heap.size≤w5.heap.size∧Below wA.heap.size wA w5)
          case atStart=>exact ⟨List.replicate ws.length false,td0,Nat.le_refl _,HST.out,by show _≤_;rw[HFL.out];omega,HSE4.out,HOWN.out,hz4,HB4.out⟩
          case round =>
            obtain ⟨seen,todo,hg30,HWK,HME,hse,hto,hz35,hB5⟩:=hrel
            have hz5:=hB5.size
            rcases List.eq_nil_or_concat todo with rfl|⟨td,a,rfl⟩
            · have hend:=HWK.out.end_
              have HV:=hid (zEb HH0.out HSO.out hend.1)
              have HSL:=hid HWK.out.seenL
              have HSE5:=hid hse
              rw[List.length_nil] at hto
              obtain ⟨A6,c6,rfl⟩:=zbb hto
              have HBZ:=hid (HBW.out.trans (hB5.mono hzw))
              clear hend hse hto HME HWK
              go_wp2_with fail
              go_ret2
              exact ⟨.inl ⟨HV.out,wA.heap.size,ws.length,rfl,by rw[←HSL.out];exact zbf HSE5.out hzw⟩,HBZ.out⟩
            · simp only[List.concat_eq_append,List.length_append,List.length_singleton] at HWK HME hto
              have hme:=HME.out
              rw[zjk] at hto
              obtain ⟨gT,cT,rfl⟩:∃ g c,u12=.slice (some ⟨g,0,none⟩) (td.length+1) c:=by
                obtain ⟨g,c,h1,_⟩:=hto.form (by omega)
                exact ⟨g,c,h1⟩
              have hcT:=zfo hto
              have hfl:=zcw zfp 1 zq7 td
              rw[Nat.mul_one] at hfl
              have ct:=(hto.cellAt td.length (by omega)).trans (by rw[List.getElem?_append_right (by omega),hfl,Nat.sub_self];rfl:_=some (.int .i64 (a:Int)))
              have hpop:=zJ6 hto hfl
              have hgT:=hto.lt gT rfl
              have hml:td.length≤30000:=by omega
              have hwl:IntKind.i64.wrap ((td.length:Int)+1 - 1)=(td.length:Int):=by rw[IntWalk.i64_in _ (by omega)];omega
              have hd0:decide ((0:Int)<(td.length:Int)+1)=true:=by rw[decide_eq_true_iff];omega
              have t0:(0:Int)≤(td.length:Int):=by omega
              have t1:(td.length:Int)<(td.length:Int)+1:=by omega
              have t2:(td.length:Int)≤(cT:Int):=by omega
              have HBZ:=hid (HBW.out.trans (hB5.mono hzw))
              have HTO:=hid hto
              have HPOP:=hid hpop
              clear hme hfl hpop hto
              by_cases han:a<ws.length
              · have hty:=zak HTY2.out hB5 (Nat.le_refl _)
                have ca:=(hty.cellAt a (by omega)).trans (zl2 tl a (by omega))
                have htb:=HTB.out a
                rw[←htb] at ca
                have hge:decide ((ws.length:Int)≤(a:Int))=false:=by rw[decide_eq_false_iff_not];omega
                have hgen:decide (ws.length≤a)=false:=by rw[decide_eq_false_iff_not];omega
                have ha0:(0:Int)≤(a:Int):=by omega
                have ha1:(a:Int)<(ws.length:Int):=by omega
                clear hty htb
                by_cases ht0:tb ws a=0
                · have HV:=hid (zH4 HH0.out (HWK.out.bad ht0))
                  rw[ht0] at ca
                  clear ht0 hse
                  go_wp2_with fail
                  go_ret2
                  exact ⟨.inr ⟨HV.out,rfl⟩,HBZ.out⟩
                · obtain ⟨hobj,htv⟩:=zhp HH0.out ht0
                  have HOBA:=hid hobj
                  have htn:(tb ws a == 0)=false:=by rw[beq_eq_false_iff_ne];exact ht0
                  have hsl:=HWK.out.hlen
                  have cs:=(hse.cellAt a (by omega)).trans (zrg seen a (by omega))
                  have HT0:=hid ht0
                  obtain ⟨t,ht⟩:∃ t:Nat,(zaf (wd ws a)).typ=(t:Int):=⟨wd ws a / 512 % 128,rfl⟩
                  have ht8:t<8:=by
                    have h7:=(zbo _).1 (ze4 hobj.2.2.2.1)
                    have h5:=hobj.2.2.2.2.1
                    omega
                  have HFD:Hid (flds ws a=zbd (wd ws (96+2 * t)) (wd ws (96+2 * t+1))):=hid (by unfold flds;rw[ht];rfl)
                  rw[ht] at htv
                  rw[htv] at ca htn
                  have HTV:=hid htv
                  have hwt:IntKind.i64.wrap ((t:Int)+1 - 1)=(t:Int):=by rw[IntWalk.i64_in _ (by omega)];omega
                  clear hobj htv ht0 ht
                  cases hsa:seen[a]?.getD false
                  · rw[hsa] at cs
                    have fs:=hse.frozenAt a
                    have hsn:seen[a]? = some false:=by
                     rw[List.getElem?_eq_getElem (by omega)] at hsa ⊢
                     rw[Option.getD_some] at hsa;rw[hsa]
                    have HWN:=hid (HWK.out.new_ HT0.out)
                    have HFS:=hid (zwt hsn)
                    have HSS:=hid (show (wr.setCell ⟨wA.heap.size,a,none⟩ (.bool true)).ownsRow wA.heap.size 4 1 (.slice (some ⟨wA.heap.size,0,none⟩) ws.length ws.length) ws.length ((seen.set a true).flatMap zbr) by
                     rw[zAd];exact (hse.stored a (.bool true)).1)
                    have hb6:=hB5.setCell (p:=⟨wA.heap.size,a,none⟩) (Nat.le_refl _) (.bool true)
                    have HB6:=hid hb6
                    have hpop6:(wr.setCell ⟨wA.heap.size,a,none⟩ (.bool true)).ownsRow W3.heap.size 3 1 (.slice (some ⟨gT,0,none⟩) td.length cT) td.length (td.flatMap zfp):=zIo HPOP.out (p:=⟨wA.heap.size,a,none⟩) (by show gT≠wA.heap.size;omega) (.bool true)
                    have HPO6:=hid hpop6
                    have c6:=(zak HTY2.out hb6 (Nat.le_refl _)).cellAt a (by omega) |>.trans (zl2 tl a (by omega))
                    rw[←HTB.out a,HTV.out] at c6
                    have HFLD:=hid (fun W (h:RdW W W.heap.size A ws)=>zx6 A ws c ws.length t W rfl (by omega) hb1 ht8 h HO.out)
                    unfold zH7 at HFLD
                    rw[←HFD.out] at HFLD
                    clear hse HTO
                    have hfl8:=zDd ws a
                    have HFIN:Hid (∀ j,j<(flds ws a).length→a+2+j<ws.length):=hid fun j hj=>ztw HOBA.out hj
                    have HTG:Hid (∀ j,zlt ws a (j+1)=zlt ws a j++(if (flds ws a)[j]? = some 3∧wd ws (a+2+j)≠0 then [min (wd ws (a+2+j)) 2048] else [])):=hid fun j=>zzo ws a j
                    have HTL:Hid (∀ j,(zlt ws a j).length≤j):=hid fun j=>zG0 ws a j
                    have HR6:=hid (HR.out.up (HBW.out.trans (hb6.mono hzw)) (HBW.out.trans (hb6.mono hzw)).size)
                    obtain ⟨F,hF⟩:∃ F,flds ws a=F:=⟨_,rfl⟩
                    rw[hF] at HFLD HWN hfl8 HFIN HTG
                    have hw2:IntKind.i64.wrap ((a:Int)+2)=(a:Int)+2:=IntWalk.i64_in _ (by omega)
                    have hme:=HME.out
                    clear hF hb6 hpop6 hsa hsn
                    go_wp2_with fail
                    refine (HFLD.out _ HR6.out).mono ?_
                    rintro e w7 ⟨⟨A7,c7,rfl,hrf⟩,hB7⟩
                    have HF7:=hid hrf
                    have HB7:=hid (HB6.out.trans (hB7.mono HB6.out.size))
                    have HS7:=hid (zak HSS.out hB7 (Nat.le_refl _))
                    have HT7:=hid (zak HPO6.out hB7 (Nat.le_refl _))
                    have hz37:W3.heap.size≤w7.heap.size:=by have:=hB7.size;rw[World.size_setCell] at this;omega
                    clear hB7 hrf cs ca c6 ct fs
                    go_wp2_with fail
                    go_loopw [12,110] (fun v i w8=>∃ j:Nat,j≤F.length∧i=.int .i64 j∧w8.ownsRow W3.heap.size 3 1 v (td++zlt ws a j).length ((td++zlt ws a j).flatMap zfp)∧w8.ownsRow wA.heap.size 4 1 (.slice (some ⟨wA.heap.size,0,none⟩) ws.length ws.length) ws.length ((seen.set a true).flatMap zbr)∧(∃ H,w8.ownsRow H 5 1 (.slice A7 F.length c7) F.length (F.flatMap zbg))∧W3.heap.size≤w8.heap.size∧Below wA.heap.size wA w8) (fun _ i _=>F.length - (intOf i).toNat)
                    case atStart=>exact ⟨0,Nat.zero_le _,rfl,by rw[show td++zlt ws a 0=td from List.append_nil td];exact HT7.out,HS7.out,⟨_,HF7.out⟩,hz37,HB7.out⟩
                    case round =>
                     obtain ⟨j,hj,rfl,hto,hse,⟨H8,hfo⟩,hz38,hB8⟩:=hrel
                     have hz8:=hB8.size
                     have hlen8:(td++zlt ws a j).length≤td.length+j:=by rw[List.length_append];have:=HTL.out j;omega
                     by_cases hltj:j<F.length
                     · obtain ⟨bF,oF,rfl,hbF,y0⟩:=RdY.at_ (show RdY wr wr.heap.size A7 F from Rd.of_own hfo) hltj
                       have hin:=HFIN.out j hltj
                       have HR8:=HR.out.up (HBW.out.trans (hB8.mono hzw)) (HBW.out.trans (hB8.mono hzw)).size
                       obtain ⟨bW,oW,rfl,hbW,x0⟩:=RdW.at_ HR8 hin
                       rw[←zcb] at x0
                       have HTS:=hid (HTG.out j)
                       rw[List.getElem?_eq_getElem hltj] at HTS
                       have hxl:=HLT.out (a+2+j)
                       have HSEP:=hid (zi8 hfo hto (by decide))
                       obtain ⟨kd,hkd⟩:∃ kd,F[j]=kd:=⟨_,rfl⟩
                       obtain ⟨x,hx⟩:∃ x,wd ws (a+2+j)=x:=⟨_,rfl⟩
                       obtain ⟨m,hm8⟩:∃ m,td++zlt ws a j=m:=⟨_,rfl⟩
                       rw[hkd] at y0 HTS
                       rw[hx] at x0 HTS hxl
                       rw[hm8] at hto hlen8
                       have HTM:Hid (td++zlt ws a (j+1)=m++(if some kd=some 3∧x≠0 then [min x 2048] else [])):=hid (by rw[HTS.out,←List.append_assoc,hm8])
                       have hji:(j:Int)<(F.length:Int):=by omega
                       have hj0:(0:Int)≤(j:Int):=by omega
                       have hw3:IntKind.i64.wrap ((a:Int)+2+(j:Int))=(a:Int)+2+(j:Int):=IntWalk.i64_in _ (by omega)
                       have i0':(0:Int)≤(a:Int)+2+(j:Int):=by omega
                       have i1':(a:Int)+2+(j:Int)<(ws.length:Int):=by omega
                       have it':((a:Int)+2+(j:Int)).toNat=a+2+j:=by omega
                       have hmm:m.length≤40000:=by omega
                       have HTO8:=hid hto
                       have HSE8:=hid hse
                       have HFO8:=hid hfo
                       have HXL:=hid hxl
                       clear HTS hkd hx hm8 HR8 hse hfo hin hxl
                       by_cases hk3:kd=3
                       · have e3:((kd:Int) != 3)=false:=by rw[bne_eq_false_iff_eq];omega
                         have e3n:(kd != 3)=false:=by rw[bne_eq_false_iff_eq];exact hk3
                         by_cases hx0:x=0
                         · have e0:((x:Int) == 0)=true:=by rw[beq_iff_eq];omega
                           have e0n:(x == 0)=true:=by rw[beq_iff_eq];exact hx0
                           have HY:=hid (show td++zlt ws a (j+1)=m by rw[HTM.out,if_neg (fun h=>h.2 hx0),List.append_nil])
                           clear hk3 hx0 HTM hto
                           go_wp2_with fail
                           go_roundw
                           case rel=>exact ⟨j+1,by omega,by go_num,by rw[HY.out];exact HTO8.out,HSE8.out,⟨_,HFO8.out⟩,hz38,hB8⟩
                           case measure=>simp[intOf];omega
                         · have e0:((x:Int) == 0)=false:=by rw[beq_eq_false_iff_ne];omega
                           have e0n:(x == 0)=false:=by rw[beq_eq_false_iff_ne];exact hx0
                           have HY:=hid (show td++zlt ws a (j+1)=m++[min x 2048] by rw[HTM.out,if_pos ⟨by rw[hk3],hx0⟩])
                           clear hk3 hx0 HTM
                           have hww:=fun (z:Int) (h0:0≤z) (h1:z≤2048)=>show IntKind.i64.wrap z=z from IntWalk.i64_in _ (by omega)
                           have hmways:min x 2048=x∧x≤2048∨min x 2048=2048∧2048<x:=by omega
                           rcases hmways with ⟨hme,hx2⟩|⟨hme,hx2⟩
                           · rw[hme] at HY
                             have hwx:=hww (x:Int) (by omega) (by omega)
                             have hmin:(if (x:Int)<2048 then (x:Int) else 2048)=(x:Int):=by split <;> omega
                             clear hww hme
                             go_wp2_with (at_builtin;refine wpList_append_own _ rfl _ _ 42 rfl W3.heap.size 3 i0 _ 1 8 Tryz.underlying42 HII.out.1 HII.out.2.1 HII.out.2.2.1 HII.out.2.2.2 rfl (by decide) _ _ _ rfl (HTO8.out.alloc _) ⟨_,0,none⟩ 1 1 [.int .i64 (x:Int)] rfl rfl (zcl _ _ _) (by simp[Value.oneCell']) (by unfold maxLen;omega) (by omega) (by simp;omega) ?_;intro v1 w9 hown1 hg1 _;have HOW1:=hid hown1;have HG1:=hid hg1;clear hown1 hg1)
                             go_roundw
                             case rel =>
                              have hgz:=HG1.out.size
                              rw[World.size_alloc] at hgz
                              refine ⟨j+1,by omega,by go_num,by rw[HY.out,List.length_append,zjk];exact HOW1.out,(HSE8.out.alloc _).kept HG1.out (.inr ?_),⟨_,(HFO8.out.alloc _).kept HG1.out HSEP.out⟩,by omega,(hB8.alloc hz8 _).grown HG1.out (by rw[World.size_alloc];omega) (fun k hk=>by have:=(HTO8.out.lt k hk).1;omega)⟩
                              intro h
                              have:=(HTO8.out.lt wA.heap.size h.symm).1
                              omega
                             case measure=>simp[intOf];omega
                           · rw[hme] at HY
                             have hxi1:(2048:Int)<(x:Int):=by omega
                             have hxi2:¬ (x:Int)<2048:=by omega
                             have hxi3:¬ (x:Int)≤2048:=by omega
                             have hxi4:¬ x<2048:=by omega
                             have hxi5:¬ x≤2048:=by omega
                             clear hww hme
                             go_wp2_with (at_builtin;refine wpList_append_own _ rfl _ _ 42 rfl W3.heap.size 3 i0 _ 1 8 Tryz.underlying42 HII.out.1 HII.out.2.1 HII.out.2.2.1 HII.out.2.2.2 rfl (by decide) _ _ _ rfl (HTO8.out.alloc _) ⟨_,0,none⟩ 1 1 [.int .i64 2048] rfl rfl (zcl _ _ _) (by simp[Value.oneCell']) (by unfold maxLen;omega) (by omega) (by simp;omega) ?_;intro v1 w9 hown1 hg1 _;have HOW1:=hid hown1;have HG1:=hid hg1;clear hown1 hg1)
                             go_roundw
                             case rel =>
                              have hgz:=HG1.out.size
                              rw[World.size_alloc] at hgz
                              refine ⟨j+1,by omega,by go_num,by rw[HY.out,List.length_append,zjk];exact HOW1.out,(HSE8.out.alloc _).kept HG1.out (.inr ?_),⟨_,(HFO8.out.alloc _).kept HG1.out HSEP.out⟩,by omega,(hB8.alloc hz8 _).grown HG1.out (by rw[World.size_alloc];omega) (fun k hk=>by have:=(HTO8.out.lt k hk).1;omega)⟩
                              intro h
                              have:=(HTO8.out.lt wA.heap.size h.symm).1
                              omega
                             case measure=>simp[intOf];omega
                       · have e3:((kd:Int) != 3)=true:=by rw[bne_iff_ne];omega
                         have e3n:(kd != 3)=true:=by rw[bne_iff_ne];exact hk3
                         have HY:=hid (show td++zlt ws a (j+1)=m by rw[HTM.out,if_neg (fun h=>hk3 (Option.some.inj h.1)),List.append_nil])
                         clear hk3 HTM hto
                         go_wp2_with fail
                         go_roundw
                         case rel=>exact ⟨j+1,by omega,by go_num,by rw[HY.out];exact HTO8.out,HSE8.out,⟨_,HFO8.out⟩,hz38,hB8⟩
                         case measure=>simp[intOf];omega
                     · obtain rfl:j=F.length:=by omega
                       have HTO8:=hid hto
                       have HSE8:=hid hse
                       have hfs:=HFS.out
                       clear hto hse hfo
                       go_wp2_with fail
                       go_roundg (gk - 1)
                       case rel=>exact ⟨seen.set a true,td++zlt ws a F.length,by omega,HWN.out,by show _≤_;omega,HSE8.out,HTO8.out,hz38,hB8⟩
                       case measure=>omega
                  · rw[hsa] at cs
                    have HWO:=hid (HWK.out.old (show seen[a]? = some true by
                     rw[List.getElem?_eq_getElem (by omega)] at hsa ⊢
                     rw[Option.getD_some] at hsa;rw[hsa]))
                    have HSE5:=hid hse
                    have hme:=HME.out
                    clear hse hsa HWK
                    go_wp2_with fail
                    go_roundg (gk - 1)
                    case rel=>exact ⟨seen,td,by omega,HWO.out,by show _≤_;omega,HSE5.out,HPOP.out,hz35,hB5⟩
                    case measure=>omega
              · have hge:decide ((ws.length:Int)≤(a:Int))=true:=by rw[decide_eq_true_iff];omega
                have hgen:decide (ws.length≤a)=true:=by rw[decide_eq_true_iff];omega
                have HV:=hid (zH4 HH0.out (HWK.out.bad (by
                  by_cases h:tb ws a=0
                  · exact h
                  · exact absurd (zn4 h) han)))
                clear hse han
                go_wp2_with fail
                go_ret2
                exact ⟨.inr ⟨HV.out,rfl⟩,HBZ.out⟩
end Go.Proofs.YtpcajamacpbjcaaGreat
namespace Go.Proofs.YtpcajamacpbjcaaGreat
open Lib (hid)
open Go.RowKit
def zfx (S:List Bool) (k:Nat):List Int:=((List.range k).filter fun a=>S[a]?.getD false).map fun a:Nat=>(a:Int)
theorem ztn (S:List Bool) (k:Nat):zfx S (k+1)=zfx S k++(if S[k]?.getD false=true then [(k:Int)] else []):=by
 unfold zfx
 rw[List.range_succ,List.filter_append,List.map_append]
 congr 1
 cases hb:S[k]?.getD false <;> simp[hb]
theorem zxg (S:List Bool) (k:Nat):(zfx S k).length≤k:=by
 unfold zfx
 rw[List.length_map]
 have:=List.length_filter_le (fun a=>S[a]?.getD false) (List.range k)
 rwa [List.length_range] at this
theorem zsr (ws:List Nat):(seenL ws).length=ws.length:=by simp[seenL]
theorem zj2 {ws:List Nat} {a:Nat} (h:a<ws.length):(seenL ws)[a]?.getD false=true↔Rch ws a:=by
 unfold seenL
 rw[List.getElem?_map,List.getElem?_range h]
 simp
theorem zde {ws:List Nat} (h:zap ws=0):za3 ws=zfx (seenL ws) ws.length:=by
 unfold za3 zfx
 rw[if_pos h]
 congr 1
 refine List.filter_congr fun a ha => ?_
 have h2:=zj2 (ws:=ws) (List.mem_range.1 ha)
 cases hb:(seenL ws)[a]?.getD false
 · rw[hb] at h2
   simpa using h2
 · rw[hb] at h2
   simpa using h2
theorem zpf {ws:List Nat} (h:zap ws≠0):za3 ws=[]:=by
 unfold za3
 rw[if_neg h]
theorem zoc {ws:List Nat} (h:zae ws≠0):zap ws=zae ws:=by
 unfold zap
 rw[if_neg h]
def zz6 (ws:List Nat) (e:Ending) (w':World):Prop:=∃ A c,e=.returned (.tuple #[.slice A (za3 ws).length c,.int .i64 (zap ws)])∧RdI w' w'.heap.size A (za3 ws)∧(za3 ws).length≤c
theorem zqu {ws:List Nat} {r:Int} {w':World} (h1:zap ws=r) (h0:r≠0):zz6 ws (.returned (.tuple #[.slice none 0 0,.int .i64 r])) w':=by
 have h2:=zpf (ws:=ws) (by rw[h1];exact h0)
 exact ⟨none,0,by rw[h1,h2];rfl,by rw[h2];exact Rd.nil_,by rw[h2];exact Nat.le_refl _⟩
set_option maxRecDepth 100000 in
set_option maxHeartbeats 4000000 in
theorem zok (A:Option Addr) (ws:List Nat) (c n:Nat) (w:World) (hn:ws.length=n) (hm:n≤9223372036854775807) (hr:RdW w w.heap.size A ws) (ho:∀ x ∈ ws,x<18446744073709551616) :
   Calls Tryz.prog 24 #[.slice A n c] w fun e w'=>zz6 ws e w'∧Below w.heap.size w w':=by
 subst hn
 have HR:=hid hr
 have HC:=hid (zzx A ws c ws.length w rfl hm hr ho)
 unfold zLh at HC
 have HO:=hid ho
 clear hr ho
 by_cases h0:zae ws=0
 · obtain ⟨l,hl⟩:∃ l,zab ws=l:=⟨_,rfl⟩
   have HRC:=hid (fun L cl W (h:RdW W W.heap.size A ws) (h2:RdB W W.heap.size L l)=>zuu A L ws c cl ws.length l W rfl hm h0 hl h h2 HO.out)
   unfold zK2 at HRC
   rw[h0,hl] at HC
   have hbd:=zf5 ws (zam h0).1
   have hlen:=hbd.2.1
   have hlen1:=hbd.1
   by_cases hz:zap ws=0
   · have HV:=hid (And.intro hz (zde hz))
     have HSL:=hid (zsr ws)
     obtain ⟨i0,hi,hz0,hz1,hz2⟩:=info_parts zue
     have HI:=hid hi
     have HZ0:=hid hz0
     have HZ1:=hid hz1
     have HZ2:=hid hz2
     clear hi hz0 hz1 hz2
     clear h0 hl hbd hz
     generalize seenL ws=S at HRC HV HSL
     have HSU:=hid (fun k=>ztn S k)
     have HSM:=hid (fun k=>zxg S k)
     go_enter Tryz.func24,Tryz.ntmps24
     go_wp2_with fail
     refine HC.out.mono ?_
     rintro e w1 ⟨⟨A1,c1,rfl,hrd,-⟩,hB1⟩
     have HB1:=hid hB1
     have HR1:=hid (HR.out.up hB1 hB1.size)
     have HRD:=hid hrd
     clear hrd hB1
     go_wp2_with fail
     refine (HRC.out A1 _ w1 HR1.out HRD.out).mono ?_
     rintro e wE ⟨⟨-,g,c2,rfl,hownS⟩|⟨h9,-⟩,hB2⟩
     · have HBE:=hid (HB1.out.trans (hB2.mono HB1.out.size))
       have HS:=hid hownS
       have hgE:=(hownS.lt g rfl).2
       clear hownS hB2
       go_wp2_with fail
       go_loopw [7,29] (fun v i wr=>∃ k:Nat,k≤ws.length∧i=.int .i64 k∧wr.ownsRow wE.heap.size 3 1 v (zfx S k).length ((zfx S k).flatMap zcf)∧Below wE.heap.size wE wr) (fun _ i _=>ws.length - (intOf i).toNat)
       case atStart=>exact ⟨0,Nat.zero_le _,rfl,World.ownsRow_nil _ _ _ _,Below.refl _ _⟩
       case round =>
        obtain ⟨k,hk,rfl,hown,hB⟩:=hrel
        have hz:=hB.size
        by_cases hlt:k<ws.length
        · have c0:=((zak HS.out hB (Nat.le_refl _)).cellAt k (by omega)).trans (zrg S k (by rw[HSL.out];exact hlt))
          have HSN:=hid (HSU.out k)
          have hml:=HSM.out k
          obtain ⟨m,hm2⟩:∃ m,zfx S k=m:=⟨_,rfl⟩
          rw[hm2] at hown HSN hml
          obtain ⟨b,hb⟩:∃ b,S[k]?.getD false=b:=⟨_,rfl⟩
          rw[hb] at c0 HSN
          have hlm:(k:Int)<(ws.length:Int):=by omega
          have hl0:(0:Int)≤(k:Int):=by omega
          clear hm2 hb
          cases b
          · have HS2:=hid (show zfx S (k+1)=m by rw[HSN.out];simp)
            clear HSN
            go_wp2_with fail
            go_roundw
            case rel=>exact ⟨k+1,by omega,by go_num,by rw[HS2.out];exact hown,hB⟩
            case measure=>simp[intOf];omega
          · have HS2:=hid (show zfx S (k+1)=m++[(k:Int)] by rw[HSN.out];rfl)
            clear HSN
            go_wp2_with (at_builtin;refine wpList_append_own _ rfl _ _ 42 rfl wE.heap.size 3 i0 _ 1 8 Tryz.underlying42 HI.out HZ0.out HZ1.out HZ2.out rfl (by decide) _ _ _ rfl (hown.alloc _) ⟨_,0,none⟩ 1 1 [.int .i64 (k:Int)] rfl rfl (zcl _ _ _) (by simp[Value.oneCell']) (by unfold maxLen;omega) (by omega) (by simp;omega) ?_;intro v1 w2 hown1 hg1 _;have hB2:=zaw hB hz hown hg1)
            go_roundw
            case rel=>exact ⟨k+1,by omega,by go_num,by rw[HS2.out,List.length_append,zb6];exact hown1,hB2⟩
            case measure=>simp[intOf];omega
        · obtain rfl:k=ws.length:=by omega
          obtain ⟨A2,c3,rfl,hle,hrd2⟩:=zir hown
          have HRD2:=hid hrd2
          have HLE:=hid hle
          clear hrd2 hown hle
          go_wp2_with fail
          go_ret2
          exact ⟨⟨A2,c3,by rw[HV.out.1,HV.out.2];rfl,by rw[HV.out.2];exact HRD2.out,by rw[HV.out.2];exact HLE.out⟩,HBE.out.trans (hB.mono HBE.out.size)⟩
     · exfalso
       rw[HV.out.1] at h9
       exact absurd h9 (by decide)
   · have HZ:=hid hz
     clear h0 hl hbd hz
     go_enter Tryz.func24,Tryz.ntmps24
     go_wp2_with fail
     refine HC.out.mono ?_
     rintro e w1 ⟨⟨A1,c1,rfl,hrd,-⟩,hB1⟩
     have HB1:=hid hB1
     have HR1:=hid (HR.out.up hB1 hB1.size)
     have HRD:=hid hrd
     clear hrd hB1
     go_wp2_with fail
     refine (HRC.out A1 _ w1 HR1.out HRD.out).mono ?_
     rintro e wE ⟨⟨h9,-⟩|⟨h9,rfl⟩,hB2⟩
     · exact absurd h9 HZ.out
     · have hbe:=HB1.out.trans (hB2.mono HB1.out.size)
       have H9:=hid h9
       clear h9
       go_wp2_with fail
       go_ret2
       exact ⟨zqu H9.out (by decide),hbe⟩
 · have HZ:=hid (And.intro (zoc h0) h0)
   obtain ⟨r,hr⟩:∃ r,zae ws=r:=⟨_,rfl⟩
   rw[hr] at HC HZ
   have hn1:(r != 0)=true:=by rw[bne_iff_ne,←hr];exact h0
   obtain ⟨q,hq⟩:∃ q,(zab ws).length=q:=⟨_,rfl⟩
   rw[hq] at HC
   clear h0 hr hq
   go_enter Tryz.func24,Tryz.ntmps24
   go_wp2_with fail
   refine HC.out.mono ?_
   rintro e w1 ⟨⟨A1,c1,rfl,-,-⟩,hB1⟩
   go_wp2_with fail
   go_ret2
   exact ⟨zqu HZ.out.1 HZ.out.2,hB1⟩
end Go.Proofs.YtpcajamacpbjcaaGreat
