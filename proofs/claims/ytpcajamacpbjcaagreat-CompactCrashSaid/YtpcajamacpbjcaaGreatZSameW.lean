/- Lists of words that are compared. -/
import Derived.Test.YtpcajamacpbjcaaGreatZKMove
set_option maxHeartbeats 16000000
set_option maxRecDepth 100000
set_option linter.all false
namespace Go.Proofs.YtpcajamacpbjcaaGreat
open Lib (hid)
open Go.RowKit
open Go.Proofs.Tryz
theorem iG(A B:Option Addr)(a b:List Nat)(n m c d H:Nat)(w:World)(hn:a.length=n)(hm:b.length=m)(h1:n<=1000000)(ha:RdW w H A a)(hb:RdW w H B b)(hH:H<=w.heap.size):
 Calls prog 19 #[.slice A n c,.slice B m d] w λe w'=>e=.returned (.bool (decide (a=b)))/\Below w.heap.size w w':=by
 subst hn hm;have O:=hid (ha.more hH);have T:=hid (hb.more hH);clear ha hb hH;by_cases j:a.length=b.length
 .have J:Hid (a.take a.length=b.take a.length->decide (a=b)=true):=hid λh=>t4 j h;have v:Hid (∀k (h:k<a.length) (L:k<b.length),a[k]≠b[k]->decide (a=b)=false):=hid λk h L R=>Bf h L R;obtain⟨q,M⟩:=xq (decide (a=b));rw[M] at J v |-;have z:((a.length:Int) != (b.length:Int))=false:=by rw[kqq];omega
  have u:(a.length != b.length)=false:=by rw[kqq];exact j
  have P:=hid j;clear M j;go_enter func19,ntmps19;go_wp2_with fail;go_loopw [5] (λi wr=>∃k:Nat,k<=a.length/\i=.int .i64 k/\Hid (a.take k=b.take k)/\Below w.heap.size w wr) (λi _=>a.length-(intOf i).toNat)
  case atStart=>exact⟨0,kqy _,rfl,rfl,kql _ _⟩
  obtain⟨k,hk,rfl,K,r⟩:=hrel;by_cases l:k<a.length
  .have f:k<b.length:=by have:=P.out;omega
   obtain⟨C,E,rfl,hg1,S⟩:=RdW.at_ (Rd.below O.out r) l;obtain⟨D,F,rfl,hg2,N⟩:=RdW.at_ (Rd.below T.out r) f;have g:=hid (λh=>rz l f K.out h);have o:=hid (v.out k l f);obtain⟨x,I⟩:=xq (a[k]);obtain⟨y,G⟩:=xq (b[k]);rw[I] at S g o;rw[G] at N g o;have hk1:(k:Int)<(a.length:Int):=by omega
   have hk2:(k:Int)<(b.length:Int):=by omega
   have hk0:(0:Int)<=(k:Int):=by omega
   clear I G;have p:((x==y)=true/\((x:Int) != (y:Int))=false/\(x != y)=false)\/((x==y)=false/\((x:Int) != (y:Int))=true/\(x != y)=true):=by
    by_cases e:x=y
    .left;subst e;simp
    right;exact⟨by rw[kqi];exact e,by rw[kqv];omega,by rw[kqv];exact e⟩
   rcases p with⟨s,Q,U⟩|⟨s,Q,U⟩
   .have t:=hid (g.out (by rw[kqw] at s;exact s));go_wp2_with fail
    first
     | (go_region_held3 (λX:World=>X.cell? ⟨C,E+k,none⟩=some (.int .u64 (x:Int))/\X.cell? ⟨D,F+k,none⟩=some (.int .u64 (y:Int))) (go_keep) (fail))
     | fail
    go_wp2;go_roundw
    case rel=>exact⟨k+1,by omega,by go_num,t.out,r.drew⟩
    case measure=>simp[intOf];omega
   have t:=hid (o.out (by intro h;rw[h] at s;simp at s));go_wp2_with fail
   first
    | (go_region_held3 (λX:World=>X.cell? ⟨C,E+k,none⟩=some (.int .u64 (x:Int))/\X.cell? ⟨D,F+k,none⟩=some (.int .u64 (y:Int))) (go_keep) (fail))
    | fail
   go_wp2;go_ret;exact⟨by rw[t.out];rfl,r.drew⟩
  have t:=hid (J.out (by have:=K.out;rwa [show k=a.length by omega] at this));go_wp2;go_ret;exact⟨by rw[t.out];rfl,r⟩
 have v:=hid (uo j);have z:((a.length:Int) != (b.length:Int))=true:=by rw[kqv];omega
 have u:(a.length != b.length)=true:=by rw[kqv];exact j
 clear j;go_enter func19,ntmps19;go_wp2;go_ret;exact⟨by rw[v.out];rfl,kql _ _⟩
end Go.Proofs.YtpcajamacpbjcaaGreat
