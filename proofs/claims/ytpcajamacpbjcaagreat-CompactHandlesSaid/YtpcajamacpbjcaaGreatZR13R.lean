/- The reference's types, read: what it returns for right types. -/
import Derived.Test.YtpcajamacpbjcaaGreatZKImage
import Derived.Test.YtpcajamacpbjcaaGreatZKHeap
namespace Go.Proofs.YtpcajamacpbjcaaGreat
open Go.RowKit
theorem zr3 {a b:Nat} (h:zb7 a b=true):a % 256≤8∧zdk (zc9 a)=true∧zgi a=b∧a / 256 / 4 ^ (a % 256)=0:=by
 have h1:=h
 rw[zjb] at h1
 simp only[Bool.and_eq_true,decide_eq_true_eq,beq_iff_eq] at h1
 obtain ⟨⟨h2,h3⟩,h4,h5⟩:=h1
 refine ⟨h2,h3,h5,?_⟩
 have h6:=zt5 (zc9 a) 4 (fun k hk=>((zco _).1 h3 k hk).2)
 rw[zet] at h6
 have h7:a=(a % 256)+zl4 (zc9 a) 4:=by
  have:zgu (zc9 a)=(zc9 a).length+zl4 (zc9 a) 4:=rfl
  rw[zet] at this
  omega
 have h8:(4:Nat) ^ (4+a % 256)=256 * 4 ^ (a % 256):=by rw[Nat.pow_add]
 have h9:a<256 * 4 ^ (a % 256):=by omega
 rw[Nat.div_div_eq_div_mul]
 exact Nat.div_eq_of_lt h9
theorem zCm (a k:Nat):a / 256 / 4 ^ k % 4=a / 4 ^ (k+4) % 4∧a / 256 / 4 ^ k / 4=a / 256 / 4 ^ (k+1):=by
 refine ⟨?_,?_⟩
 · rw[Nat.div_div_eq_div_mul,show (4:Nat) ^ (k+4)=256 * 4 ^ k by rw[Nat.pow_add,Nat.mul_comm]]
 · rw[Nat.div_div_eq_div_mul (a / 256),Nat.pow_succ]
end Go.Proofs.YtpcajamacpbjcaaGreat
