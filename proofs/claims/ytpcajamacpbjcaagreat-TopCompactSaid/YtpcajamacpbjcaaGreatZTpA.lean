/- TopCompact: a phase has changes. -/
import Derived.Test.YtpcajamacpbjcaaGreatZKStg2
import Derived.Test.YtpcajamacpbjcaaGreatZKRun
import Derived.Test.YtpcajamacpbjcaaGreatZKStg3
import Derived.Test.YtpcajamacpbjcaaGreatZKImage
set_option maxHeartbeats 16000000
set_option maxRecDepth 100000
set_option linter.all false
namespace Go.Proofs.YtpcajamacpbjcaaGreat
open Lib (hid)
open Go.RowKit
open Go.Proofs.Tryz
def t1L:List Nat:=nK.set 16 1
theorem t1_len:t1L.length=256:=by unfold t1L;rw[kq3,qi]
theorem t1_lt:∀x∈t1L,x<18446744073709551616:=by decide +kernel
theorem t1_run:(vm 20 10 t1L).map (λr=>(r.1,r.2.1.length))=some (0,1):=by decide +kernel
theorem t1_all:∃o x,jy t1L=(0,o,x)/\o.length=1:=by
 have h:=t1_run;cases a:vm 20 10 t1L with
 | none=>rw[a] at h;cases h
 | some r =>rw[a] at h;simp only[kzz,Option.some.injEq,Prod.mk.injEq] at h;exact⟨r.2.1,r.2.2,by rw[CH t1_lt a,<-h.1],h.2⟩
theorem lz(w:World):Calls prog 11 #[] w λe w'=>e=.returned (.bool true)/\Below w.heap.size w w':=by
 have b:=hid (JK none none none [] [] [] 0 0 0 256 w.heap.size w (by omega) (by omega) RdT.nil_ (show (0:Nat)<=8 by decide) Rd.nil_ Rd.nil_ (show (0:Nat)<=16 by decide) (kqa _) (show (0:Nat)<=2048 by decide) (λk C=>absurd C (by simp)) (λk C=>absurd C (by simp)));have u:Hid (sh 256 (List.map Ty.l []) [] []=nK):=hid rfl;rw[u.out] at b;unfold CM at b;rw[qi] at b;have i:=hid (λA c W (J:256<=c) (h:RdW W W.heap.size A t1L)=>AS A t1L c 256 W t1_len (by omega) J h t1_lt);obtain⟨o,x,F,G⟩:=t1_all;unfold JS at i;rw[F] at i;have z:=hid G;have v:Hid ((nK.flatMap ae).set 16 (.int .u64 ((1:Nat):Int))=t1L.flatMap ae):=hid (by unfold t1L;rw[gC]);have q:nK[16]? = some 0:=by decide +kernel
 have f:(nK.flatMap ae)[16]? = some (.int .u64 ((0:Nat):Int)):=by obtain⟨M,e⟩:=kza.1 q;rw[iC nK 16 M,e]
 have r:=hid f;clear F G q f;go_enter func11,ntmps11;go_wp2_with fail;refine b.out.mono ?_;rintro e w1 ⟨g,c,rfl,a,s⟩;have c0:=(a.cellAt 16 (by omega)).trans r.out;have f0:=a.frozenAt 16;have I:=ft a;have t:=(a.stored 16 (.int .u64 ((1:Nat):Int))).1;rw[v.out] at t;have n:=Ku t;have K:=hid t;have m:=hid (s.setCell (p:=⟨g,16,none⟩) I (.int .u64 ((1:Nat):Int)));clear a s t;go_wp2_with fail;refine (i.out _ _ _ n (show RdW _ _ _ t1L from Rd.of_own K.out)).mono ?_;rintro e w2 ⟨⟨L,B,d,vx,rfl,H,-,E,-⟩,j⟩;obtain⟨g2,c2,rfl,-,-⟩:=E trivial;have D:L.length=1:=by rw[<-z.out,<-H,kzg]
 have y:=hid (m.out.trans (j.mono m.out.size));rw[D];clear H E j D;go_wp2;go_ret;exact⟨rfl,y.out⟩
end Go.Proofs.YtpcajamacpbjcaaGreat
