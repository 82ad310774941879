/- Lists of words that are compared. -/
import Derived.Test.YtpcajamacpbjcaaGreatZKMove
set_option maxHeartbeats 16000000
set_option maxRecDepth 100000
set_option linter.all false
namespace Go.Proofs.YtpcajamacpbjcaaGreat
open Lib (hid)
open Go.RowKit
open Go.Proofs.Tryz
theorem mX(A B:Option Addr)(a b:List Nat)(n m c d H:Nat)(w:World)(hn:a.length=n)(hm:b.length=m)(h1:n<=1000000)(ha:RdW w H A a)(hb:RdW w H B b)(hH:H<=w.heap.size):
 Calls prog 19 #[.slice A n c,.slice B m d] w λe w'=>e=.returned (.bool (decide (a=b)))/\Below w.heap.size w w':=by
 subst hn hm;have Q:=hid (ha.more hH);have N:=hid (hb.more hH);clear ha hb hH;by_cases l:a.length=b.length
 .have I:Hid (a.take a.length=b.take a.length->decide (a=b)=true):=hid λh=>tP l h;have v:Hid (∀k (h:k<a.length) (D:k<b.length),a[k]≠b[k]->decide (a=b)=false):=hid λk h D P=>zw h D P;obtain⟨q,J⟩:=xq (decide (a=b));rw[J] at I v |-;have z:((a.length:Int) != (b.length:Int))=false:=by rw[kqq];omega
  have u:(a.length != b.length)=false:=by rw[kqq];exact l
  have T:=hid l;clear J l;go_enter func19,ntmps19;go_wp2_with fail;go_loopw [5] (λi wr=>∃k:Nat,k<=a.length/\i=.int .i64 k/\Hid (a.take k=b.take k)/\Below w.heap.size w wr) (λi _=>a.length-(intOf i).toNat)
  case atStart=>exact⟨0,kqy _,rfl,rfl,kql _ _⟩
  obtain⟨k,hk,rfl,K,t⟩:=hrel;by_cases g:k<a.length
  .have f:k<b.length:=by have:=T.out;omega
   obtain⟨G,L,rfl,hg1,S⟩:=RdW.at_ (Rd.below Q.out t) g;obtain⟨M,E,rfl,hg2,O⟩:=RdW.at_ (Rd.below N.out t) f;have j:=hid (λh=>rg g f K.out h);have o:=hid (v.out k g f);obtain⟨x,C⟩:=xq (a[k]);obtain⟨y,F⟩:=xq (b[k]);rw[C] at S j o;rw[F] at O j o;have hk1:(k:Int)<(a.length:Int):=by omega
   have hk2:(k:Int)<(b.length:Int):=by omega
   have hk0:(0:Int)<=(k:Int):=by omega
   clear C F;have p:((x==y)=true/\((x:Int) != (y:Int))=false/\(x != y)=false)\/((x==y)=false/\((x:Int) != (y:Int))=true/\(x != y)=true):=by
    by_cases e:x=y
    .left;subst e;simp
    right;exact⟨by rw[kqi];exact e,by rw[kqt];omega,by rw[kqt];exact e⟩
   rcases p with⟨r,R,U⟩|⟨r,R,U⟩
   .have s:=hid (j.out (by rw[kqx] at r;exact r));go_wp2_with fail
    first
     | (go_region_held3 (λX:World=>X.cell? ⟨G,L+k,none⟩=some (.int .u64 (x:Int))/\X.cell? ⟨M,E+k,none⟩=some (.int .u64 (y:Int))) (go_keep) (fail))
     | fail
    go_wp2;go_roundw
    case rel=>exact⟨k+1,by omega,by go_num,s.out,t.drew⟩
    case measure=>simp[intOf];omega
   have s:=hid (o.out (by intro h;rw[h] at r;simp at r));go_wp2_with fail
   first
    | (go_region_held3 (λX:World=>X.cell? ⟨G,L+k,none⟩=some (.int .u64 (x:Int))/\X.cell? ⟨M,E+k,none⟩=some (.int .u64 (y:Int))) (go_keep) (fail))
    | fail
   go_wp2;go_ret;exact⟨by rw[s.out];rfl,t.drew⟩
  have s:=hid (I.out (by have:=K.out;rwa [show k=a.length by omega] at this));go_wp2;go_ret;exact⟨by rw[s.out];rfl,t⟩
 have v:=hid (uR l);have z:((a.length:Int) != (b.length:Int))=true:=by rw[kqt];omega
 have u:(a.length != b.length)=true:=by rw[kqt];exact l
 clear l;go_enter func19,ntmps19;go_wp2;go_ret;exact⟨by rw[v.out];rfl,kql _ _⟩
end Go.Proofs.YtpcajamacpbjcaaGreat
