/- CompactNames: its devices. Plain. -/
import Derived.Test.YtpcajamacpbjcaaGreatZKCo
import Derived.Test.YtpcajamacpbjcaaGreatZGD
set_option maxHeartbeats 16000000
set_option linter.all false
namespace Go.Proofs.YtpcajamacpbjcaaGreat
open Go.RowKit
def BT:List (List En):=((lT 20 12 (gF dW)).map (λr=>r.2.1)).getD []
theorem zW:coL dW=[⟨16,1⟩]::BT:=by
 obtain⟨t,c⟩:=lW kh;unfold coL BT;rw[if_pos (lM kh)];cases a:lT 20 12 (gF dW) with
 | none=>have:=yp;rw[a] at this;cases this
 | some r =>have b:=(c.all ko).symm.trans (rD (nN ko) a);rw[<-b];simp only[kzt,kq8]
def eX (k:Int):Dv × Int:=E8 ([⟨16,1⟩]::BT) ⟨dW,[],k,false⟩
theorem Af{k:Int}(h1 : -1<=k)(h2:k<=1000000):coR ⟨dW,[],k,false⟩=eX k:=by have a:fX ⟨dW,[],k,false⟩=true:=(ch _).2 ⟨by dsimp only;rw[de];exact (ae _).2 (by omega),h1,h2,λh=>(by cases h),rfl⟩;unfold coR eX;rw[if_pos (fO a),if_neg (by simp),show dvV ⟨dW,[],k,false⟩=dW from rfl,if_pos (lM kh),zW]
def pH:Int:=tot ofS (([⟨16,1⟩]::BT).map aF)+tot ofF (([⟨16,1⟩]::BT).map aF)+tot ofN (([⟨16,1⟩]::BT).map aF)
theorem y35:(eX 4).2=60/\(eX 4).1.im.length=256/\(eX 4).1.left=0/\(eX 4).1.down=true/\(eX 4).1.im.take 32=dW.take 32:=by decide +kernel
theorem z35:(eX 1000).2=0/\(eX 1000).1.im.length=256/\(eX 1000).1.left=1000-pH/\(eX 1000).1.down=false/\(eX 1000).1.im.drop 128=dW.drop 128:=by decide +kernel
theorem n35:(eX pH).2=0/\(eX (pH-1)).2=60/\(eX (pH-1)).1.down=true/\0<pH/\pH<1000:=by decide +kernel
theorem e35:(eX 0).2=60/\(eX (-1)).2=0:=by decide +kernel
end Go.Proofs.YtpcajamacpbjcaaGreat
