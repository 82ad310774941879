/- Texts laid together: R02S SupP SupR SupS SupT. -/
import Derived.Test.YtpcajamacpbjcaaGreatZKMove
import Derived.Test.YtpcajamacpbjcaaGreatZKImage
import Derived.Test.YtpcajamacpbjcaaGreatZKHead
import Derived.Test.YtpcajamacpbjcaaGreatZKRefs
import Derived.Test.YtpcajamacpbjcaaGreatZKStg2
set_option maxHeartbeats 16000000
set_option maxRecDepth 100000
set_option linter.all false
namespace Go.Proofs.YtpcajamacpbjcaaGreat
open Lib (hid)
open Go.RowKit
variable {fn:Func}{l ws:List Nat}{a g:Nat}{p q:Tmp}{t:TypeId}{u v0 v1:Value}{W:World}
open Go.Proofs.Tryz
def sp7 (n t:Nat):List Nat:=[32777959566500194,1,n,t,0,0,0]
def spL (n t:Nat):List Nat:=sp7 n t++[aR 14695981039346656037 (sp7 n t)]
theorem rJ(n t:Nat):(spL n t).length=8:=rfl
def sX (l:List Nat):Bool:=ap ((wd l 2:Nat):Int)&&(decide (wd l 3<=8)&&decide (spL (wd l 2) (wd l 3)=l))
def kU (l:List Nat):Int:=if sX l=true then 0 else 50
def spV (l:List Nat):Value:=if sX l=true then .agg #[.int .i64 ((wd l 2:Nat):Int),.int .i64 ((wd l 3:Nat):Int)] else .agg #[.int .i64 0,.int .i64 0]
def sp8 (ws:List Nat) (a:Nat):List Nat:=(ws.drop a).take 8
theorem rB{i:Nat}(h:i<8):wd (sp8 ws a) i=wd ws (a+i):=by unfold sp8 wd;rw[kkr,if_pos h,kxy]
def r7 (ws:List Nat) (a:Nat):Bool:=sX (sp8 ws a)&&wd ws (a+2)==ws.length
def tyN (ws:List Nat):Option Nat:=if r7 ws 0=true then some (wd ws 3) else if r7 ws 8=true then some (wd ws 11) else none
theorem kK(l:List Nat):sX l=true↔ap ((wd l 2:Nat):Int)=true/\wd l 3<=8/\spL (wd l 2) (wd l 3)=l:=by unfold sX;simp
theorem yQ{t:Nat}(h:tyN ws=some t):t<=8:=by
 unfold tyN at h;split at h
 .rename_i h1;simp only[Option.some.injEq] at h;unfold r7 at h1;rw[kqo] at h1;have:=((kK _).1 h1.1).2.1;rw[rB (by omega)] at this;simp at this;omega
 split at h
 .rename_i h1;simp only[Option.some.injEq] at h;unfold r7 at h1;rw[kqo] at h1;have:=((kK _).1 h1.1).2.1;rw[rB (by omega)] at this;simp at this;omega
 cases h
theorem AU:(prog.info? 53).map (λi=>(i.zero,i.size,i.bytes))=some (some (.int .u64 0),1,8):=by kernel_rfl
theorem qS(n t:Nat)(w:World)(hn:n<=1000000)(ht:t<=1000000):
 Calls prog 109 #[.agg #[.int .i64 (n:Int),.int .i64 (t:Int)]] w λe w'=>(∃A c,e=.returned (.slice A 8 c)/\w'.ownsRow w.heap.size 53 1 (.slice A 8 c) 8 ((spL n t).flatMap aa))/\Below w.heap.size w w':=by
 have B:=hid (λA W (H:RdW W W.heap.size A (sp7 n t))=>tL A (sp7 n t) 7 7 W rfl (by omega) H (λx E=>by
  simp only[sp7,kqt,kzb,or_false] at E;omega))
 have C:=hid (show (spL n t).flatMap aa=[.int .u64 32777959566500194,.int .u64 1,.int .u64 (n:Int),.int .u64 (t:Int),.int .u64 0,.int .u64 0,.int .u64 0]++[.int .u64 ((aR 14695981039346656037 (sp7 n t):Nat):Int)] by
  unfold spL;rw[cP];rfl)
 obtain⟨q,z⟩:=xq (aR 14695981039346656037 (sp7 n t));rw[z] at B C;have r:=hid ((kqk w.heap.size w).alloc (kqa _) (.cells #[.int .i64 (n:Int),.int .i64 (t:Int)] 126));have w1:IntKind.u64.wrap (n:Int)=(n:Int):=kz0 _ (by omega);have w2:IntKind.u64.wrap (t:Int)=(t:Int):=kz0 _ (by omega);clear z;obtain⟨F,D,l,m,i⟩:=kzw AU;have I:=hid D;have s:=hid l;have u:=hid m;have p:=hid i;clear D l m i;go_enter func109,ntmps109;go_wp2_with fail;obtain⟨o,f⟩:∃o,w.alloc (.cells #[.int .i64 (n:Int),.int .i64 (t:Int)] 126)=o:=⟨_,rfl⟩;have j:o.heap.size=w.heap.size+1:=by rw[<-f,kqm]
 rw[f] at r |-;have k:=r.out.size;have a:=cp (n:=7) (sz:=1) o 53 #[.int .u64 32777959566500194,.int .u64 1,.int .u64 (n:Int),.int .u64 (t:Int),.int .u64 0,.int .u64 0,.int .u64 0] k rfl (by unfold maxLen;omega);rw[j] at a;clear j;refine (B.out _ _ (show Rd _ _ _ _ from Rd.of_own a)).mono ?_;rintro e w5 ⟨rfl,h⟩;have d:=ak a h (kqa _);have g:=hid ((r.out.alloc k (.cells #[.int .u64 32777959566500194,.int .u64 1,.int .u64 (n:Int),.int .u64 (t:Int),.int .u64 0,.int .u64 0,.int .u64 0] 53)).trans (h.mono (by simp;omega)));clear f a h;go_wp2_with (at_builtin;refine kzk _ rfl _ _ 22 rfl w.heap.size 53 F _ 1 8 underlying22 I.out s.out u.out p.out rfl (by decide) _ _ _ rfl (d.alloc _) ⟨_,0,none⟩ 1 1 [.int .u64 (q:Int)] rfl rfl (dd _ _ _) (by simp[Value.oneCell']) (by unfold maxLen;omega) (by omega) (aY g.out.size) ?_;intro v1 w6 b v _;have y:=aO g.out g.out.size d v);obtain⟨G,J,rfl⟩:=aS b;go_ret;exact⟨⟨G,J,rfl,by rw[C.out];exact b⟩,y⟩
theorem jU(h:fn.results=#[.cell p 126,.tmp q])(tmps:Array Value)(hb:Bx W g t #[v0,v1])(hp:tmps.getD p undef=.pointer (some ⟨g,0,none⟩))(hq:tmps.getD q undef=u):
 (results fn tmps).run prog W=.ok (.tuple #[.agg #[v0,v1],u]) W:=by obtain⟨b,a,-⟩:=hb.c2;rw[kxl] at hp hq;simp[results,h,hp,hq,go_sem,b,a]
theorem sm(h:sX l=false):spV l=.agg #[.int .i64 0,.int .i64 0]/\kU l=50:=by simp[spV,kU,h]
theorem uk(h:sX l=true):spV l=.agg #[.int .i64 ((wd l 2:Nat):Int),.int .i64 ((wd l 3:Nat):Int)]/\kU l=0:=by simp[spV,kU,h]
theorem BH(h:¬ (ap ((wd l 2:Nat):Int)=true/\wd l 3<=8)):sX l=false:=by
 cases a:sX l with
 | false=>rfl
 | true=>exact absurd ⟨((kK l).1 a).1,((kK l).1 a).2.1⟩ h
theorem zg(h:a+8<=ws.length):(sp8 ws a).length=8:=by unfold sp8;rw[kq3,kzj];omega
theorem Eb{w:World}{B:Nat}{A:Option Addr}(h:RdW w B A ws)(a:Nat):RdW w B (A.map (·.add a)) (sp8 ws a):=by unfold RdW sp8 at *;rw[lx _ aX,oj _ aX];exact (Rd.drop_ h a).take_ 8
def nI (ws:List Nat):Int:=if ap (ws.length:Int)=true then (if (tyN ws).isSome=true then 0 else 50) else 8
def TwRes (ws:List Nat) (e:Ending):Prop:=∃(a:Int) (b0 b1:Bool),e=.returned (.tuple #[.agg #[.int .i64 a,.int .i64 (((tyN ws).getD 0:Nat):Int)],.agg #[.bool b0,.bool b1],.int .i64 (nI ws)])
theorem gx{r:Tmp}(h:fn.results=#[.cell p 126,.cell q 127,.tmp r])(tmps:Array Value){g':Nat}{t':TypeId}{u0 u1:Value}(hb:Bx W g t #[v0,v1])(hb':Bx W g' t' #[u0,u1])(hp:tmps.getD p undef=.pointer (some ⟨g,0,none⟩))(hp':tmps.getD q undef=.pointer (some ⟨g',0,none⟩))(hq:tmps.getD r undef=u):
 (results fn tmps).run prog W=.ok (.tuple #[.agg #[v0,v1],.agg #[u0,u1],u]) W:=by obtain⟨c,b,-⟩:=hb.c2;obtain⟨a,d,-⟩:=hb'.c2;rw[kxl] at hp hp' hq;simp[results,h,hp,hp',hq,go_sem,c,b,a,d]
theorem xV(h:ap (ws.length:Int)=false):tyN ws=none/\nI ws=8:=by
 have b:∀a,r7 ws a=false:=λa=>by
  cases c:r7 ws a with
  | false=>rfl
  | true =>unfold r7 at c;simp only[kqo,kqw] at c;have d:=((kK _).1 c.1).1;rw[rB (by omega),c.2,h] at d;cases d
 exact⟨by unfold tyN;rw[b,b];rfl,by unfold nI;rw[h];rfl⟩
end Go.Proofs.YtpcajamacpbjcaaGreat
