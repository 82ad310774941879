/- Texts laid together: Ref13 Bld Pair. -/
import Derived.Test.YtpcajamacpbjcaaGreatZKHeap
import Derived.Test.YtpcajamacpbjcaaGreatZKRefs
import Derived.Test.YtpcajamacpbjcaaGreatZKHead
import Derived.Test.YtpcajamacpbjcaaGreatZKMove
set_option maxHeartbeats 16000000
set_option maxRecDepth 100000
set_option linter.all false
namespace Go.Proofs.YtpcajamacpbjcaaGreat
open Lib (hid)
open Go.RowKit
open Go.Proofs.Tryz
theorem nO(A:Option Addr)(l:List Nat)(c n B:Nat)(w:World)(hn:l.length=n)(h8:n<=8)(d:fc l=true)(hr:RdY w B A l):
 Calls prog 136 #[.slice A n c] w λe w'=>e=.returned (.int .i64 0)/\w=w':=by
 subst hn;have o:=hid hr;have g:=hid d;clear hr d;go_enter func136,ntmps136;go_wp2_with fail
 go_loop [3] (λi=>∃k:Nat,k<=l.length/\i=.int .i64 k) (λi=>l.length-(intOf i).toNat)
 case atStart=>exact⟨0,kqx _,rfl⟩
 obtain⟨k,d,rfl⟩:=hrel;by_cases a:k<l.length
 .obtain ⟨b,off,rfl,hb,h⟩:=o.out.at_ a;obtain⟨j,m⟩:=(d9 l).1 g.out l[k] (kqs a);obtain⟨x,f⟩:=xq (l[k]);rw[f] at h j m;have e1:((x:Int)==0)=false:=by rw[kqi];omega
  clear f;go_wp2_with fail
  go_round
  case rel=>exact⟨k+1,by omega,by go_num⟩
  case measure=>simp[intOf];omega
 go_wp2;go_ret;exact⟨rfl,rfl⟩
theorem oO(A:Option Addr)(l:List Nat)(c n:Nat)(w:World)(hn:l.length=n)(hm:n<=2048)(hr:RdW w w.heap.size A l)(ho:∀x∈l,x<18446744073709551616):
 Calls prog 138 #[.slice A n c] w λe w'=>e=.returned (.int .u64 (bt 14695981039346656037 l:Nat))/\Below w.heap.size w w':=by have b:=hid (sE 14695981039346656037 A l c n w hn hm (by omega) hr ho);clear hr ho;obtain⟨q,d⟩:=xq (bt 14695981039346656037 l);rw[d] at b |-;clear d;go_enter func138,ntmps138;go_wp2_with fail;refine b.out.mono ?_;rintro e w1 ⟨rfl,a⟩;go_wp2;go_ret;exact⟨rfl,a⟩
def tyPut (w:List Nat) (i:Nat) (t:List Nat):List Nat:=(w.set (96+2*i) (jK t)).set (96+2*i+1) (iH (jK t))
def C0 (ts:List (List Nat)) (w:List Nat):Nat->List Nat
 | 0=>w
 | k+1=>tyPut (C0 ts w k) k (ts[k]?.getD [])
def bkPut (w:List Nat) (a:Nat) (b:Bk):List Nat:=(w.set a (cC b)).set (a+1) b.next
def tO (bs:List Bk) (s:List Nat × Nat):Nat->List Nat × Nat
 | 0=>s
 | k+1=>(bkPut (tO bs s k).1 (tO bs s k).2 (gk bs k),(tO bs s k).2+(gk bs k).size.toNat)
def dV (n:Nat):Bk:=⟨0,(n:Int),2,0,false,0⟩
structure Ty where
 A:Option Addr
 c:Nat
 l:List Nat
 deriving Inhabited
def Ty.cells (x:Ty):List Value:=[.slice x.A x.l.length x.c]
theorem Ty.len(x:Ty):x.cells.length=1:=rfl
theorem Rd.of_bx{w:World}{g B:Nat}{t:TypeId}{cs:Array Value}(h:Bx w g t cs)(hg:g<B):Rd w B (some ⟨g,0,none⟩) cs.toList:=λ_ =>
 ⟨g,0,rfl,hg,λj hj=>by
  rw[kx5,h.cell j]
  simp⟩
def fits (n:Nat) (ts:List (List Nat)) (bs:List Bk) (k:Nat):Prop:=(0<=(gk bs k).kind/\(gk bs k).kind<256)/\(0<=(gk bs k).typ/\(gk bs k).typ<128)/\(2<=(gk bs k).size/\(gk bs k).size<65536)/\(tO bs (C0 ts (List.replicate n 0) ts.length,128) k).2+(gk bs k).size.toNat<=n
instance (n:Nat) (ts:List (List Nat)) (bs:List Bk) (k:Nat):Decidable (fits n ts bs k):=by unfold fits;infer_instance
end Go.Proofs.YtpcajamacpbjcaaGreat
