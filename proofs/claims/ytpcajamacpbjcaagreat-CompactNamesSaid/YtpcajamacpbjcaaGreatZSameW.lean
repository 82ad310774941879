/- Lists of words that are compared. -/
import Derived.Test.YtpcajamacpbjcaaGreatZKMove
set_option maxHeartbeats 16000000
set_option maxRecDepth 100000
set_option linter.all false
namespace Go.Proofs.YtpcajamacpbjcaaGreat
open Lib (hid)
open Go.RowKit
open Go.Proofs.Tryz
theorem iD(A B:Option Addr)(a b:List Nat)(n m c d H:Nat)(w:World)(hn:a.length=n)(hm:b.length=m)(h1:n<=1000000)(ha:RdW w H A a)(hb:RdW w H B b)(hH:H<=w.heap.size):
 Calls prog 19 #[.slice A n c,.slice B m d] w λe w'=>e=.returned (.bool (decide (a=b)))/\Below w.heap.size w w':=by
 subst hn hm;have T:=hid (ha.more hH);have O:=hid (hb.more hH);clear ha hb hH;by_cases o:a.length=b.length
 .have L:Hid (a.take a.length=b.take a.length->decide (a=b)=true):=hid λh=>um o h;have v:Hid (∀k (h:k<a.length) (I:k<b.length),a[k]≠b[k]->decide (a=b)=false):=hid λk h I S=>zO h I S;obtain⟨q,D⟩:=xq (decide (a=b));rw[D] at L v |-;have z:((a.length:Int) != (b.length:Int))=false:=by rw[kqq];omega
  have t:(a.length != b.length)=false:=by rw[kqq];exact o
  have Q:=hid o;clear D o;go_enter func19,ntmps19;go_wp2_with fail;go_loopw [5] (λi wr=>∃k:Nat,k<=a.length/\i=.int .i64 k/\Hid (a.take k=b.take k)/\Below w.heap.size w wr) (λi _=>a.length-(intOf i).toNat)
  case atStart=>exact⟨0,kqy _,rfl,rfl,kqk _ _⟩
  obtain⟨k,hk,rfl,J,u⟩:=hrel;by_cases g:k<a.length
  .have f:k<b.length:=by have:=Q.out;omega
   obtain⟨M,F,rfl,hg1,R⟩:=RdW.at_ (Rd.below T.out u) g;obtain⟨E,K,rfl,hg2,N⟩:=RdW.at_ (Rd.below O.out u) f;have p:=hid (λh=>rF g f J.out h);have l:=hid (v.out k g f);obtain⟨x,C⟩:=xq (a[k]);obtain⟨y,G⟩:=xq (b[k]);rw[C] at R p l;rw[G] at N p l;have hk1:(k:Int)<(a.length:Int):=by omega
   have hk2:(k:Int)<(b.length:Int):=by omega
   have hk0:(0:Int)<=(k:Int):=by omega
   clear C G;have j:((x==y)=true/\((x:Int) != (y:Int))=false/\(x != y)=false)\/((x==y)=false/\((x:Int) != (y:Int))=true/\(x != y)=true):=by
    by_cases e:x=y
    .left;subst e;simp
    right;exact⟨by rw[kqj];exact e,by rw[kqu];omega,by rw[kqu];exact e⟩
   rcases j with⟨s,U,P⟩|⟨s,U,P⟩
   .have r:=hid (p.out (by rw[kqw] at s;exact s));go_wp2_with fail
    first
     | (go_region_held3 (λX:World=>X.cell? ⟨M,F+k,none⟩=some (.int .u64 (x:Int))/\X.cell? ⟨E,K+k,none⟩=some (.int .u64 (y:Int))) (go_keep) (fail))
     | fail
    go_wp2;go_roundw
    case rel=>exact⟨k+1,by omega,by go_num,r.out,u.drew⟩
    case measure=>simp[intOf];omega
   have r:=hid (l.out (by intro h;rw[h] at s;simp at s));go_wp2_with fail
   first
    | (go_region_held3 (λX:World=>X.cell? ⟨M,F+k,none⟩=some (.int .u64 (x:Int))/\X.cell? ⟨E,K+k,none⟩=some (.int .u64 (y:Int))) (go_keep) (fail))
    | fail
   go_wp2;go_ret;exact⟨by rw[r.out];rfl,u.drew⟩
  have r:=hid (L.out (by have:=J.out;rwa [show k=a.length by omega] at this));go_wp2;go_ret;exact⟨by rw[r.out];rfl,u⟩
 have v:=hid (uC o);have z:((a.length:Int) != (b.length:Int))=true:=by rw[kqu];omega
 have t:(a.length != b.length)=true:=by rw[kqu];exact o
 clear o;go_enter func19,ntmps19;go_wp2;go_ret;exact⟨by rw[v.out];rfl,kqk _ _⟩
end Go.Proofs.YtpcajamacpbjcaaGreat
