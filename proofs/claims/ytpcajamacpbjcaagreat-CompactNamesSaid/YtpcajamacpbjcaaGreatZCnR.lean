/- CompactNames: what its function 'runs' returns. -/
import Derived.Test.YtpcajamacpbjcaaGreatZCnP
import Derived.Test.YtpcajamacpbjcaaGreatZGG
set_option maxHeartbeats 16000000
set_option maxRecDepth 100000
set_option linter.all false
namespace Go.Proofs.YtpcajamacpbjcaaGreat
open Lib (hid)
open Go.RowKit
open Go.Proofs.Tryz
theorem DW(A DA:Option Addr)(im:List Nat)(dw:List Dw)(lf:Int)(dn:Bool)(n c m dc:Nat)(want:Int)(w:World)(hn:im.length=n)(hm:dw.length=m)(hn2:n<=9223372036854775807)(hm2:m<=1000000)(hc:n<=c)(hlt:DvLt ⟨im,dw,lf,dn⟩)(hi:RdW w w.heap.size A im)(hr:RdQ w w.heap.size DA dw)(h:∃x,coR ⟨im,dw,lf,dn⟩=(x,want)/\x.im.length<=2048/\(want=0\/want=60/\dn=false\/want≠0/\(want≠60\/dn=true)/\x.im.length=0)):
 Calls prog 41 #[.agg #[.slice A n c,.slice DA m dc,.int .i64 lf,.bool dn],.int .i64 want] w λe w'=>e=.returned (.bool true)/\Below w.heap.size w w':=by
 obtain⟨x,z,u,l⟩:=h;have a:=hid (λW (h:RdW W W.heap.size A im) (g:RdQ W W.heap.size DA dw)=>xL A DA im dw lf dn n c m dc W hn hm hn2 hm2 hc hlt h g);unfold ls at a;rw[z] at a;dsimp only at a;obtain⟨q,B⟩:=xq x.im.length;rw[B] at a l u;have p:=hid (Bx.new w 79 #[.slice A n c,.slice DA m dc,.int .i64 lf,.bool dn]);have d:=hid ((kqk w.heap.size w).alloc (kqa _) (.cells #[.slice A n c,.slice DA m dc,.int .i64 lf,.bool dn] 79));have J:=hid hi;have F:=hid hr;obtain⟨r,j⟩:=xq (w.alloc (.cells #[.slice A n c,.slice DA m dc,.int .i64 lf,.bool dn] 79));rw[j] at p d;have b:w.heap.size<r.heap.size:=p.out.lt;obtain⟨xi,xd,xl,xn⟩:=x;dsimp only at a;clear hi hr hlt z B hn hm;have k:∀(_:want=0\/want=60/\dn=false\/want≠0/\(want≠60\/dn=true)/\q=0),Calls prog 41 #[.agg #[.slice A n c,.slice DA m dc,.int .i64 lf,.bool dn],.int .i64 want] w λe w'=>e=.returned (.bool true)/\Below w.heap.size w w':=by
  intro l;have i:(want=0)\/(want=60/\dn=false)\/(want=60/\dn=true/\q=0)\/((want==0)=false/\(want==60)=false/\q=0):=by
   rcases l with h|h|⟨H,g,C⟩
   .exact .inl h
   .exact .inr (.inl h)
   by_cases v:want=60
   .rcases g with g|g
    .exact absurd v g
    exact .inr (.inr (.inl ⟨v,g,C⟩))
   exact .inr (.inr (.inr ⟨by rw[kqj];exact H,by rw[kqj];exact v,C⟩))
  have hself:(want==want)=true:=by simp
  rcases i with rfl|⟨rfl,rfl⟩|⟨rfl,rfl,rfl⟩|⟨e1,e2,rfl⟩
  all_goals
   clear l;go_enter func41,ntmps41;go_wp2_with (first
    | ((with_reducible refine aH 79 (.tmp 2) ?_);refine ldD p.out ?_))
   clear j;refine (a.out r (J.out.up d.out (kxr b)) (F.out.up d.out (kxr b))).mono ?_;rintro e D ⟨⟨_,rfl,A1,c1,DA1,dc1,rfl,hc1,-,-⟩,f⟩;have y:=f.size;have t:=hid ((d.out.trans (f.mono (kxr b))).alloc (kz1 (kxr b) y) (.cells #[.slice none 0 0,.slice none 0 0,.int .i64 0,.bool false] 79));have G:=hid ((p.out.up f b).alloc (.cells #[.slice none 0 0,.slice none 0 0,.int .i64 0,.bool false] 79));have I:=hid (Bx.new D 79 #[.slice none 0 0,.slice none 0 0,.int .i64 0,.bool false]);have s:w.heap.size≠D.heap.size:=by omega
   clear f;go_wp2_with (first
    | (((with_reducible refine aq 79 (.tmp 5) _ ?_);refine stD I.out ?_;intro w2 E o);have K:=hid (o.out.bx G.out s);obtain⟨s0,s1,s2,s3,-,-,-,-,slt⟩:=E.out.c4;obtain⟨r0,r1,r2,r3,-,-,-,-,rlt⟩:=K.out.c4))
   go_ret;exact⟨rfl,o.out.below t.out (by omega)⟩
 exact k l
end Go.Proofs.YtpcajamacpbjcaaGreat
