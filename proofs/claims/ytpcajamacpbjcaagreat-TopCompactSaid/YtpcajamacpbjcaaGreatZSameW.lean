/- Lists of words that are compared. -/
import Derived.Test.YtpcajamacpbjcaaGreatZKMove
set_option maxHeartbeats 16000000
set_option maxRecDepth 100000
set_option linter.all false
namespace Go.Proofs.YtpcajamacpbjcaaGreat
open Lib (hid)
open Go.RowKit
open Go.Proofs.Tryz
theorem jr(A B:Option Addr)(a b:List Nat)(n m c d H:Nat)(w:World)(hn:a.length=n)(hm:b.length=m)(h1:n<=1000000)(ha:RdW w H A a)(hb:RdW w H B b)(hH:H<=w.heap.size):
 Calls prog 19 #[.slice A n c,.slice B m d] w λe w'=>e=.returned (.bool (decide (a=b)))/\Below w.heap.size w w':=by
 subst hn hm;have S:=hid (ha.more hH);have P:=hid (hb.more hH);clear ha hb hH;by_cases g:a.length=b.length
 .have E:Hid (a.take a.length=b.take a.length->decide (a=b)=true):=hid λh=>rF g h;have v:Hid (∀k (h:k<a.length) (J:k<b.length),a[k]≠b[k]->decide (a=b)=false):=hid λk h J N=>t5 h J N;obtain⟨q,K⟩:=xq (decide (a=b));rw[K] at E v |-;have z:((a.length:Int) != (b.length:Int))=false:=by rw[kqr];omega
  have r:(a.length != b.length)=false:=by rw[kqr];exact g
  have T:=hid g;clear K g;go_enter func19,ntmps19;go_wp2_with fail;go_loopw [5] (λi wr=>∃k:Nat,k<=a.length/\i=.int .i64 k/\Hid (a.take k=b.take k)/\Below w.heap.size w wr) (λi _=>a.length-(intOf i).toNat)
  case atStart=>exact⟨0,kqz _,rfl,rfl,kqk _ _⟩
  obtain⟨k,hk,rfl,G,t⟩:=hrel;by_cases l:k<a.length
  .have f:k<b.length:=by have:=T.out;omega
   obtain⟨D,F,rfl,hg1,U⟩:=RdW.at_ (Rd.below S.out t) l;obtain⟨I,M,rfl,hg2,O⟩:=RdW.at_ (Rd.below P.out t) f;have o:=hid (λh=>oT l f G.out h);have p:=hid (v.out k l f);obtain⟨x,C⟩:=xq (a[k]);obtain⟨y,L⟩:=xq (b[k]);rw[C] at U o p;rw[L] at O o p;have hk1:(k:Int)<(a.length:Int):=by omega
   have hk2:(k:Int)<(b.length:Int):=by omega
   have hk0:(0:Int)<=(k:Int):=by omega
   clear C L;have j:((x==y)=true/\((x:Int) != (y:Int))=false/\(x != y)=false)\/((x==y)=false/\((x:Int) != (y:Int))=true/\(x != y)=true):=by
    by_cases e:x=y
    .left;subst e;simp
    right;exact⟨by rw[kqi];exact e,by rw[kqv];omega,by rw[kqv];exact e⟩
   rcases j with⟨u,R,Q⟩|⟨u,R,Q⟩
   .have s:=hid (o.out (by rw[kqx] at u;exact u));go_wp2_with fail
    first
     | (go_region_held3 (λX:World=>X.cell? ⟨D,F+k,none⟩=some (.int .u64 (x:Int))/\X.cell? ⟨I,M+k,none⟩=some (.int .u64 (y:Int))) (go_keep) (fail))
     | fail
    go_wp2;go_roundw
    case rel=>exact⟨k+1,by omega,by go_num,s.out,t.drew⟩
    case measure=>simp[intOf];omega
   have s:=hid (p.out (by intro h;rw[h] at u;simp at u));go_wp2_with fail
   first
    | (go_region_held3 (λX:World=>X.cell? ⟨D,F+k,none⟩=some (.int .u64 (x:Int))/\X.cell? ⟨I,M+k,none⟩=some (.int .u64 (y:Int))) (go_keep) (fail))
    | fail
   go_wp2;go_ret;exact⟨by rw[s.out];rfl,t.drew⟩
  have s:=hid (E.out (by have:=G.out;rwa [show k=a.length by omega] at this));go_wp2;go_ret;exact⟨by rw[s.out];rfl,t⟩
 have v:=hid (qz g);have z:((a.length:Int) != (b.length:Int))=true:=by rw[kqv];omega
 have r:(a.length != b.length)=true:=by rw[kqv];exact g
 clear g;go_enter func19,ntmps19;go_wp2;go_ret;exact⟨by rw[v.out];rfl,kqk _ _⟩
end Go.Proofs.YtpcajamacpbjcaaGreat
