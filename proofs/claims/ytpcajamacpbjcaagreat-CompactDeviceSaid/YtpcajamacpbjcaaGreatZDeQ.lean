/- CompactDevice: what the reference's small functions return. -/
import Derived.Test.YtpcajamacpbjcaaGreatZDeP
import Derived.Test.YtpcajamacpbjcaaGreatZGG
set_option maxHeartbeats 16000000
set_option linter.all false
namespace Go.Proofs.YtpcajamacpbjcaaGreat
open Lib (hid)
open Go.RowKit
open Go.Proofs.Tryz
theorem Hc(a b c d e f:Int)(w:World)(h:(0<=a/\a<=1000000000000)/\(0<=b/\b<=1000000000000)/\(0<=c/\c<=1000000000000)/\(0<=d/\d<=1000000000000)/\(0<=e/\e<=1000000000000)/\(0<=f/\f<=1000000000000)):
 Calls prog 46 #[.agg #[.int .i64 a,.int .i64 b,.int .i64 c],.agg #[.int .i64 d,.int .i64 e,.int .i64 f]] w λr w'=>r=.returned (.agg #[.int .i64 (a+d),.int .i64 (b+e),.int .i64 (c+f)])/\Below w.heap.size w w':=by obtain⟨⟨a1,a2⟩,⟨b1,b2⟩,⟨c1,c2⟩,⟨d1,d2⟩,⟨e1,e2⟩,f1,f2⟩:=h;go_enter func46,ntmps46;go_wp2_with fail;refine kqo (v:=.agg #[.int .i64 (a+d),.int .i64 (b+e),.int .i64 (c+f)]) (by simp[results,results46,go_sem]) rfl ⟨rfl,?_⟩;(repeat' (first|with_reducible assumption|with_reducible exact kqk _ _ | (with_reducible refine aW ?_ _) | (with_reducible refine kjh ?_) | (with_reducible refine kji ?_ ?_ _) | (with_reducible refine kq7 ?_ ?_ _)))<;>(first|exact kqa _|exact kz4 _|omega | (dsimp only;omega) | ((repeat (first | (with_reducible refine aS ?_) | (with_reducible refine fp ?_) | (with_reducible refine dj ?_)));first|exact kqa _|omega))
def FiRes (e:Ending) (w':World):Prop:=∃A c,e=.returned (.slice A 1 c)/\RdE w' w'.heap.size A [⟨16,1⟩]
theorem zC(w:World):Calls prog 45 #[] w λe w'=>FiRes e w'/\Below w.heap.size w w':=by have a:=hid (de (n:=1) (sz:=2) w 89 #[.int .i64 16,.int .u64 1] (kqa _) (by rfl) (by unfold maxLen;omega));have c:=hid ((kqk w.heap.size w).alloc (kqa _) (.cells #[.int .i64 16,.int .u64 1] 89));go_enter func45,ntmps45;go_wp2;go_ret;have b:RdE (w.alloc (.cells #[.int .i64 16,.int .u64 1] 89)) (w.alloc (.cells #[.int .i64 16,.int .u64 1] 89)).heap.size (some ⟨w.heap.size,0,none⟩) [⟨16,1⟩]:=Rd.of_own a.out;exact⟨⟨some ⟨w.heap.size,0,none⟩,1,rfl,b⟩,c.out⟩
end Go.Proofs.YtpcajamacpbjcaaGreat
