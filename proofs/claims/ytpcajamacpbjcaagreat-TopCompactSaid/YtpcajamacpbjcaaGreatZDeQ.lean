/- CompactDevice: what the reference's small functions return. -/
import Derived.Test.YtpcajamacpbjcaaGreatZDeP
import Derived.Test.YtpcajamacpbjcaaGreatZGG
set_option maxHeartbeats 16000000
set_option linter.all false
namespace Go.Proofs.YtpcajamacpbjcaaGreat
open Go.RowKit
open Go.Proofs.Tryz
theorem Iz(a b c d e f:Int)(w:World)(h:(0<=a/\a<=1000000000000)/\(0<=b/\b<=1000000000000)/\(0<=c/\c<=1000000000000)/\(0<=d/\d<=1000000000000)/\(0<=e/\e<=1000000000000)/\(0<=f/\f<=1000000000000)):
 Calls prog 46 #[.agg #[.int .i64 a,.int .i64 b,.int .i64 c],.agg #[.int .i64 d,.int .i64 e,.int .i64 f]] w λr w'=>r=.returned (.agg #[.int .i64 (a+d),.int .i64 (b+e),.int .i64 (c+f)])/\Below w.heap.size w w':=by obtain⟨⟨a1,a2⟩,⟨b1,b2⟩,⟨c1,c2⟩,⟨d1,d2⟩,⟨e1,e2⟩,f1,f2⟩:=h;go_enter func46,ntmps46;go_wp2_with fail;refine kqq (v:=.agg #[.int .i64 (a+d),.int .i64 (b+e),.int .i64 (c+f)]) (by simp[results,results46,go_sem]) rfl ⟨rfl,?_⟩;(repeat' (first|with_reducible assumption|with_reducible exact kqk _ _ | (with_reducible refine bp ?_ _) | (with_reducible refine kji ?_) | (with_reducible refine kjj ?_ ?_ _) | (with_reducible refine kq9 ?_ ?_ _)))<;>(first|exact kqa _|exact kz8 _|omega | (dsimp only;omega) | ((repeat (first | (with_reducible refine aS ?_) | (with_reducible refine fF ?_) | (with_reducible refine dr ?_)));first|exact kqa _|omega))
end Go.Proofs.YtpcajamacpbjcaaGreat
