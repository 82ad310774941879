/- Lists of words that are compared. -/
import Derived.Test.YtpcajamacpbjcaaGreatZKMove
set_option maxHeartbeats 16000000
set_option maxRecDepth 100000
set_option linter.all false
namespace Go.Proofs.YtpcajamacpbjcaaGreat
open Lib (hid)
open Go.RowKit
open Go.Proofs.Tryz
theorem nW(A B:Option Addr)(a b:List Nat)(n m c d H:Nat)(w:World)(hn:a.length=n)(hm:b.length=m)(h1:n<=1000000)(ha:RdW w H A a)(hb:RdW w H B b)(hH:H<=w.heap.size):
 Calls prog 19 #[.slice A n c,.slice B m d] w λe w'=>e=.returned (.bool (decide (a=b)))/\Below w.heap.size w w':=by
 subst hn hm;have P:=hid (ha.more hH);have T:=hid (hb.more hH);clear ha hb hH;by_cases j:a.length=b.length
 .have E:Hid (a.take a.length=b.take a.length->decide (a=b)=true):=hid λh=>vS j h;have v:Hid (∀k (h:k<a.length) (L:k<b.length),a[k]≠b[k]->decide (a=b)=false):=hid λk h L Q=>zW h L Q;obtain⟨q,C⟩:=xq (decide (a=b));rw[C] at E v |-;have z:((a.length:Int) != (b.length:Int))=false:=by rw[kqr];omega
  have r:(a.length != b.length)=false:=by rw[kqr];exact j
  have U:=hid j;clear C j;go_enter func19,ntmps19;go_wp2_with fail;go_loopw [5] (λi wr=>∃k:Nat,k<=a.length/\i=.int .i64 k/\Hid (a.take k=b.take k)/\Below w.heap.size w wr) (λi _=>a.length-(intOf i).toNat)
  case atStart=>exact⟨0,kqy _,rfl,rfl,kqk _ _⟩
  obtain⟨k,hk,rfl,J,t⟩:=hrel;by_cases l:k<a.length
  .have f:k<b.length:=by have:=U.out;omega
   obtain⟨F,G,rfl,hg1,R⟩:=RdW.at_ (Rd.below P.out t) l;obtain⟨K,I,rfl,hg2,O⟩:=RdW.at_ (Rd.below T.out t) f;have p:=hid (λh=>sh l f J.out h);have o:=hid (v.out k l f);obtain⟨x,D⟩:=xq (a[k]);obtain⟨y,M⟩:=xq (b[k]);rw[D] at R p o;rw[M] at O p o;have hk1:(k:Int)<(a.length:Int):=by omega
   have hk2:(k:Int)<(b.length:Int):=by omega
   have hk0:(0:Int)<=(k:Int):=by omega
   clear D M;have g:((x==y)=true/\((x:Int) != (y:Int))=false/\(x != y)=false)\/((x==y)=false/\((x:Int) != (y:Int))=true/\(x != y)=true):=by
    by_cases e:x=y
    .left;subst e;simp
    right;exact⟨by rw[kqi];exact e,by rw[kqv];omega,by rw[kqv];exact e⟩
   rcases g with⟨s,N,S⟩|⟨s,N,S⟩
   .have u:=hid (p.out (by rw[kqw] at s;exact s));go_wp2_with fail
    first
     | (go_region_held3 (λX:World=>X.cell? ⟨F,G+k,none⟩=some (.int .u64 (x:Int))/\X.cell? ⟨K,I+k,none⟩=some (.int .u64 (y:Int))) (go_keep) (fail))
     | fail
    go_wp2;go_roundw
    case rel=>exact⟨k+1,by omega,by go_num,u.out,t.drew⟩
    case measure=>simp[intOf];omega
   have u:=hid (o.out (by intro h;rw[h] at s;simp at s));go_wp2_with fail
   first
    | (go_region_held3 (λX:World=>X.cell? ⟨F,G+k,none⟩=some (.int .u64 (x:Int))/\X.cell? ⟨K,I+k,none⟩=some (.int .u64 (y:Int))) (go_keep) (fail))
    | fail
   go_wp2;go_ret;exact⟨by rw[u.out];rfl,t.drew⟩
  have u:=hid (E.out (by have:=J.out;rwa [show k=a.length by omega] at this));go_wp2;go_ret;exact⟨by rw[u.out];rfl,t⟩
 have v:=hid (vf j);have z:((a.length:Int) != (b.length:Int))=true:=by rw[kqv];omega
 have r:(a.length != b.length)=true:=by rw[kqv];exact j
 clear j;go_enter func19,ntmps19;go_wp2;go_ret;exact⟨by rw[v.out];rfl,kqk _ _⟩
end Go.Proofs.YtpcajamacpbjcaaGreat
