/- Texts laid together: Fwr SameP Same2 To Put HdM. -/
import Derived.Test.YtpcajamacpbjcaaGreatZKHeap
import Derived.Test.YtpcajamacpbjcaaGreatZKHead
import Derived.Laws.OwnMore
set_option maxHeartbeats 16000000
set_option maxRecDepth 100000
set_option linter.all false
namespace Go.Proofs.YtpcajamacpbjcaaGreat
open Lib (hid)
open Go.RowKit
variable {a f s:Int}{l:List Bk}{ws:List Nat}{xs:List Value}{H k n sz:Nat}{α:Type}{e:TypeId}{w:World}
open Go.Proofs.Tryz
def pu (m:Int × Int):List Value:=[.int .i64 m.1,.int .i64 m.2]
theorem tw(m:Int × Int):(pu m).length=2:=rfl
def RdM (w:World) (B:Nat) (A:Option Addr) (l:List (Int × Int)):Prop:=Rd w B A (l.flatMap pu)
theorem RdM.at_{B:Nat}{A:Option Addr}{l:List (Int × Int)}(h:RdM w B A l)(hk:k<l.length):
 ∃b a,A=some ⟨b,a,none⟩/\b<B/\w.cell? ⟨b,a+k*2,none⟩=some (.int .i64 l[k].1)/\w.cell? ⟨b,a+k*2+1,none⟩=some (.int .i64 l[k].2):=by obtain⟨b,a,e,d,c⟩:=Rd.at_flat tw h (by omega) hk;exact⟨b,a,e,d,c 0 (by omega),c 1 (by omega)⟩
theorem EL:(prog.info? 275).map (λi=>(i.zero,i.size,i.bytes))=some (some (.agg #[.int .i64 0,.int .i64 0]),2,16):=by kernel_rfl
def vD (ws:List Nat) (f s:Int) (e:Ending) (w':World):Prop:=∃A c,e=.returned (.tuple #[.slice A (ic ws f s).length c,.int .i64 (aW ws f s)])/\RdM w' w'.heap.size A (ic ws f s)/\(ic ws f s).length<=c
theorem kr{r:Int}{w':World}(hr:aW ws f s=r)(h0:r≠0):vD ws f s (.returned (.tuple #[.slice none 0 0,.int .i64 r])) w':=by
 subst hr;have:ic ws f s=[]:=by simp[ic,h0]
 exact⟨none,0,by rw[this];rfl,by rw[this];exact Rd.nil_,by rw[this];simp⟩
theorem Gr(h:fT n f s=true):
 ((f%2 != 0)=true/\(f.tmod 2 != 0)=true) \/
 ((
  f%2 != 0)=false/\(f.tmod 2 != 0)=false)/\(((s%2 != 0)=true/\(s.tmod 2 != 0)=true) \/
  ((s%2 != 0)=false/\(s.tmod 2 != 0)=false)/\(s<128\/128<=s/\f<s\/(128<=s/\s<=f)/\(n:Int)<f)):=by
 rw[kA] at h;rw[pI,pI];by_cases c:f%2=0
 .have b:(f%2 != 0)=false:=by rw[kqq];exact c
  rw[b];refine .inr ⟨⟨rfl,rfl⟩,?_⟩;by_cases d:s%2=0
  .have a:(s%2 != 0)=false:=by rw[kqq];exact d
   rw[a];refine .inr ⟨⟨rfl,rfl⟩,?_⟩;omega
  have a:(s%2 != 0)=true:=by rw[kqv];exact d
  rw[a];exact .inl ⟨rfl,rfl⟩
 have b:(f%2 != 0)=true:=by rw[kqv];exact c
 rw[b];exact .inl ⟨rfl,rfl⟩
theorem xZ(h:aj (ws.length:Int)=false):aW ws f s=8:=by unfold aW;rw[fk,h];rfl
theorem BS(h:aj (ws.length:Int)=true)(h2:fT ws.length f s=true):aW ws f s=2:=by unfold aW;rw[fk,h,h2];rfl
theorem xO(h:aj (ws.length:Int)=true)(h2:fT ws.length f s=false)(h3:blocks ws f.toNat=none):aW ws f s=50:=by unfold aW ls;rw[fk,h,h2,h3];rfl
theorem zJ(h:aj (ws.length:Int)=true)(h2:fT ws.length f s=false)(h3:blocks ws f.toNat=some l)(h4:bU ws l s=false):aW ws f s=50:=by rw[iB (by rw[fk];exact h) h2 h3,h4];rfl
theorem CB(h:aj (ws.length:Int)=true)(h2:fT ws.length f s=false)(h3:blocks ws f.toNat=some l)(h4:bU ws l s=true):aW ws f s=0/\ic ws f s=az l s:=by
 have a:aW ws f s=0:=by rw[iB (by rw[fk];exact h) h2 h3,if_pos h4]
 exact⟨a,by unfold ic;rw[if_pos a,h3]⟩
theorem pM(h:fT n f s=false):fc n f=false:=by have:=gu h;simp only[fc,kzl,kqh,kqq];omega
theorem Ga(hst:ew l s=0)(hk:k<l.length)(h:bU ws (l.take k) s=true):
 (dC ws l[k]=false->bU ws l s=false) /\
 (dC ws l[k]=true->aV l[k]=true->l[k].next≠bv l[k] (aK (l.take k) s)->bU ws l s=false) /\
 (dC ws l[k]=true->aV l[k]=true->l[k].next=bv l[k] (aK (l.take k) s)->bU ws (l.take (k+1)) s=true/\az (l.take (k+1)) s=az (l.take k) s++[(l[k].at_,((bv l[k] (aK (l.take k) s):Nat):Int))]) /\
 (dC ws l[k]=true->aV l[k]=false->bU ws (l.take (k+1)) s=true/\az (l.take (k+1)) s=az (l.take k) s):=by
 obtain⟨j,i,g,_⟩:=eP hst;have hb:=kx j (kz7 hk) i g;have c:=oo (ws:=ws) hk s;have f:=wg hk s;rw[h,kzr] at c;have e:aV l[k]=true->bv l[k] (aK (l.take k) s)=(aK (l.take k) s).toNat:=λa=>by unfold bv;rw[if_pos a]
 refine⟨λb=>?_,λb a d=>?_,λb a d=>?_,λb a=>?_⟩
 .refine rT (k:=k+1) ?_;rw[c,b];rfl
 .refine rT (k:=k+1) ?_;rw[e a] at d;rw[c,b,a,show ((l[k].next:Int)==aK (l.take k) s)=false by rw[kqi];omega];rfl
 .rw[e a] at d |-;rw[c,f,b,a,show ((l[k].next:Int)==aK (l.take k) s)=true by rw[kqw];omega,kj7 (by omega)];exact⟨rfl,rfl⟩
 rw[c,f,b,a];exact⟨rfl,by simp⟩
theorem lP(l:List Bk):∀s,(az l s).length<=l.length:=by
 induction l with
 | nil=>intro s;exact kqd _
 | cons b l ih =>
  intro s;simp only[az];split
  .have:=ih (s+b.size);simp only[kq2];omega
  have:=ih s;simp only[kq2];omega
theorem pN(A:Option Addr)(ws:List Nat)(c n:Nat)(f s:Int)(w:World)(hn:ws.length=n)(hm:n<=9223372036854775807)(hf : -9223372036854775808<=f/\f<=9223372036854775807)(hs : -9223372036854775808<=s/\s<=9223372036854775807)(hr:RdW w w.heap.size A ws)(ho:∀x∈ws,x<18446744073709551616):
 Calls prog 161 #[.slice A n c,.int .i64 f,.int .i64 s] w λe w'=>vD ws f s e w'/\Below w.heap.size w w':=by
 subst hn;have HR:=hid hr;have HO:=hid ho;obtain⟨f1,f2⟩:=hf;obtain⟨s1,s2⟩:=hs;clear hr ho;cases hs:aj (ws.length:Int)
 .have HI:=hid (bD hs);have HE:=hid (xZ (f:=f) (s:=s) hs);clear hs;go_enter func161,ntmps161;go_wp2_with fail;refine (aE A ws.length c w hm).mono ?_;rintro e w1 ⟨rfl,rfl⟩;rw[HI.out];go_wp2;go_ret2;exact⟨kr HE.out (by omega),kql _ _⟩
 have HI:=hid (aX hs);obtain⟨Kw,hb2,Y⟩:=gJ ws hs;have HS:=hid hs;clear hs Y;cases M:fT ws.length f s
 .have Q:=hid M;obtain⟨a1,a2,a3,a4,a5⟩:=gu M;obtain⟨i,rfl⟩:=kq1 (show 0<=f by omega);obtain⟨u,rfl⟩:=kq1 (show 0<=s by omega);have Lc:=hid (λl (h:blocks ws i=some l)=>cF HS.out (pM Q.out) (l:=l) (by rw[kqj];exact h));have Le:=hid (λ(h:blocks ws i=none)=>eQ HS.out (pM Q.out) (by rw[kqj];exact h));have Lb:=hid (λl (h:blocks ws i=some l)=>kP (ws:=ws) (i:=i) (l:=l) (by omega) h (by omega) (by omega) (by omega) (s:=(u:Int)) (by omega) (by omega) (by omega));have Lh:=hid (λl (h:blocks ws i=some l)=>(bG (ws:=ws) (by omega) i l h (by omega) (by omega) (by omega)).1);have Ku:=hid (λl (h:blocks ws i=some l) k (hk:k<l.length) h1=>jK (ws:=ws) h (by omega) (k:=k) hk h1);have Jc:=hid (lU A ws c ws.length (i:Int) w rfl hm HR.out HO.out);unfold pG at Jc;have e1:((i:Int)%2 != 0)=false:=by rw[kqq];exact a1
  have e2:((u:Int)%2 != 0)=false:=by rw[kqq];exact a2
  have d1:decide ((u:Int)<128)=false:=by rw[kqh];omega
  have d2:decide ((i:Int)<(u:Int))=false:=by rw[kqh];omega
  have d2n:decide (i<u)=false:=by rw[kqh];omega
  have d3:decide ((ws.length:Int)<(i:Int))=false:=by rw[kqh];omega
  have d3n:decide (ws.length<i)=false:=by rw[kqh];omega
  have u0:(0:Int)<=(u:Int):=by omega
  have i0':(0:Int)<=(i:Int):=by omega
  clear M a1 a2;cases P:blocks ws i with
  | none =>have HE:=hid (xO HS.out Q.out (by rw[kqj];exact P));rw[Le.out P] at Jc;obtain⟨l,hl⟩:∃l,aN ws (i:Int)=l:=⟨_,rfl⟩;rw[hl] at Jc;clear P hl;go_enter func161,ntmps161;go_wp2_with fail;refine (aE A ws.length c w hm).mono ?_;rintro e w1 ⟨rfl,rfl⟩;rw[HI.out];go_wp2_with fail;refine Jc.out.mono ?_;rintro e w1 ⟨⟨A1,c1,rfl,-,-⟩,Kx⟩;go_wp2;go_ret2;exact⟨kr HE.out (by omega),Kx⟩
  | some l =>
   have Jy:=hid P;have Jk:=hid (Lb.out l P);have hlen:=Lh.out l P;obtain⟨g1,g2⟩:=Lc.out l P;rw[g1,g2] at Jc;have Kc:=hid (λ(A2:Option Addr) (c2:Nat) (W:World) (h:RdB W W.heap.size A2 l)=>tU A2 l c2 l.length (u:Int) W rfl (by omega) h (by omega));unfold An at Kc;rw[Jk.out] at Kc;clear P g1 g2;obtain⟨i2,hi,Kk,Kg,Jo⟩:=kzv EL;have HJ:=hid hi;have Li:=hid Kk;have La:=hid Kg;have Kz:=hid Jo;clear hi Kk Kg Jo;go_enter func161,ntmps161;go_wp2_with fail;refine (aE A ws.length c w hm).mono ?_;rintro e w1 ⟨rfl,rfl⟩;rw[HI.out];go_wp2_with fail;refine Jc.out.mono ?_;rintro e w2 ⟨⟨A1,c1,rfl,Kn,-⟩,Ks⟩;have Jo:=Ks.size;have Ka:=hid Kn;clear Kn;go_wp2_with fail;refine (Kc.out A1 c1 _ Ka.out).mono ?_;rintro e w3 ⟨⟨A2,c2,rfl,Km,-⟩,Jv⟩;have Y:=Ks.trans (Jv.mono Jo);have Jq:=Y.size;have Kf:=hid Km;have Kh:=hid (Ka.out.up Jv Jv.size);have Jp:=hid (HR.out.up Y Jq);clear Km Ka;obtain⟨pl,Jj⟩:∃pl,jb l (u:Int)=pl:=⟨_,rfl⟩;rw[Jj] at Kf |-;have Jt:pl.length=l.length:=by rw[<-Jj];simp[jb,Jk.out,dd]
   have Kl:=hid (λk (hk:k<l.length)=>uK Jk.out hk);rw[Jj] at Kl;rw[Jt];clear Jj Jt;go_wp2_with fail;go_loopw [13,61] (λv i wr=>∃k:Nat,k<=l.length/\i=.int .i64 k/\Hid (bU ws (l.take k) (u:Int)=true)/\wr.ownsRow w3.heap.size 275 2 v (az (l.take k) (u:Int)).length ((az (l.take k) (u:Int)).flatMap pu)/\Below w3.heap.size w3 wr) (λ_ i _=>l.length-(intOf i).toNat)
   case atStart=>exact⟨0,kqy _,rfl,rfl,kq8 _ _ _ _,kql _ _⟩
   obtain⟨k,hk,rfl,Ko,y,hB⟩:=hrel;have hz:=hB.size;by_cases Ji:k<l.length
   .obtain ⟨b,off,rfl,hbw,q0,q1,q2,q3,q4,q5⟩:=RdB.at_ (Kh.out.below hB) Ji;obtain⟨Lf,Kd,Ky⟩:=Kl.out k Ji;obtain⟨I,j,rfl,Kt,p0⟩:=RdI.at_ (Kf.out.below hB) Lf;rw[Kd] at p0;have D:=hid (Ga (ws:=ws) Jk.out Ji Ko.out);have Jl:=hid (Ku.out l Jy.out k Ji);have Ju:=hid (λh=>zJ HS.out Q.out (l:=l) (by rw[kqj];exact Jy.out) h);have Kb:=lP (l.take k) (u:Int);rw[kq3] at Kb;obtain⟨m,Jm⟩:∃m,az (l.take k) (u:Int)=m:=⟨_,rfl⟩;rw[Jm] at y D Kb;obtain⟨v,hv⟩:∃v,bv l[k] (aK (l.take k) (u:Int))=v:=⟨_,rfl⟩;rw[hv] at Ky p0 D;obtain⟨x,hx⟩:=xq (l[k]);rw[hx] at q0 q1 q2 q3 q4 q5 D Jl;obtain⟨z,xs,xk,xt,O,r⟩:=x;dsimp only at q0 q1 q2 q3 q4 q5 Jl;have hlm:(k:Int)<(l.length:Int):=by omega
    have hml2:m.length<=2048:=by omega
    have hv2:(v:Int)<=2048:=by omega
    have hv0:(0:Int)<=(v:Int):=by omega
    have hk0:(0:Int)<=(k:Int):=by omega
    have hwv:IntKind.u64.wrap (v:Int)=(v:Int):=kzt _ (by omega);clear hx Jm Kb hv Kd;by_cases Jd:xk=1
    .obtain ⟨t0,t8⟩:=Jl.out Jd;obtain⟨t,rfl⟩:=kq1 t0;subst Jd;have HT:=hid (λW (h:RdW W W.heap.size A ws)=>Ag A ws c ws.length t z xs 1 O r W rfl (by omega) Kw (by omega) h HO.out);have Jh:dC ws ⟨z,xs,1,(t:Int),O,r⟩=cZ ws ⟨z,xs,1,(t:Int),O,r⟩:=rfl;have Jf:aV ⟨z,xs,1,(t:Int),O,r⟩=O:=rfl;rw[Jh,Jf] at D;obtain⟨q,hq⟩:∃q,cZ ws ⟨z,xs,1,(t:Int),O,r⟩=q:=⟨_,rfl⟩;rw[hq] at D HT;clear hq Jh Jf Jl;cases q
     .have HE:=hid (Ju.out (D.out.1 rfl));clear D;go_wp2_with fail;obtain⟨E,F⟩:∃E,wr.alloc (.cells #[.int .i64 z,.int .i64 xs,.int .i64 1,.int .i64 (t:Int),.bool O,.int .u64 (r:Int)] 55)=E:=⟨_,rfl⟩;have N:=Bx.new wr 55 #[.int .i64 z,.int .i64 xs,.int .i64 1,.int .i64 (t:Int),.bool O,.int .u64 (r:Int)];have o:=hB.alloc hz (.cells #[.int .i64 z,.int .i64 xs,.int .i64 1,.int .i64 (t:Int),.bool O,.int .u64 (r:Int)] 55);have d:=y.alloc (.cells #[.int .i64 z,.int .i64 xs,.int .i64 1,.int .i64 (t:Int),.bool O,.int .u64 (r:Int)] 55);have H:(wr.alloc (.cells #[.int .i64 z,.int .i64 xs,.int .i64 1,.int .i64 (t:Int),.bool O,.int .u64 (r:Int)] 55)).heap.size=wr.heap.size+1:=by simp
      have B:=(kzi wr (.cells #[.int .i64 z,.int .i64 xs,.int .i64 1,.int .i64 (t:Int),.bool O,.int .u64 (r:Int)] 55) ⟨I,j+k,none⟩ (by dsimp only;omega)).trans p0;rw[F] at N o d H B |-;clear F;have Jb:=hid (Jp.out.up o o.size);have G:=hid o;have L:=hid d;have BX:=hid N;obtain⟨U,T,Z,x3,V,x5,-,g⟩:=N.c6;have Eq:I<E.heap.size:=by omega
      clear o d N y q0 q1 q2 q3 q4 q5 p0;refine kzp (S:=λX:World=>X.cell? ⟨wr.heap.size,0,none⟩=some (.int .i64 z)/\X.cell? ⟨wr.heap.size,1,none⟩=some (.int .i64 xs)/\X.cell? ⟨wr.heap.size,2,none⟩=some (.int .i64 1)/\X.cell? ⟨wr.heap.size,3,none⟩=some (.int .i64 (t:Int))/\X.cell? ⟨wr.heap.size,4,none⟩=some (.bool O)/\X.cell? ⟨wr.heap.size,5,none⟩=some (.int .u64 (r:Int))/\X.cell? ⟨I,j+k,none⟩=some (.int .i64 (v:Int))) (by kernel_rfl) ⟨U,T,Z,x3,V,x5,B⟩ (λC=>?_);show wpAnyH _ _ _ _ _ 18 #[false,false,false,false,false,false,false,false,false,false,false,false,false,false,false,false,false,false] _ _;refine tj 0 (.slice A ws.length c) ?_;dsimp only[Act.put,kqg,kqc,kqb,kqa,kqf,kqe];refine tj 1 (.agg #[.int .i64 z,.int .i64 xs,.int .i64 1,.int .i64 (t:Int),.bool O,.int .u64 (r:Int)]) ?_
      dsimp only[Act.put,kqg,kqc,kqb,kqa,kqf,kqe];refine kzx (rs:=[2]) (by kernel_rfl) (by simp) ?_;refine AllReadyH.cons rfl (λK hK=>?_) AllReadyH.nil;go_simp;refine (HT.out E.drew (show RdW E.drew E.drew.heap.size A ws from Jb.out)).mono ?_;rintro e w5 ⟨rfl,a⟩;go_simp;have J:=hid a;refine hK.out _ _ ⟨(a.cell (p:=⟨wr.heap.size,0,none⟩) g).trans U,(a.cell (p:=⟨wr.heap.size,1,none⟩) g).trans T,(a.cell (p:=⟨wr.heap.size,2,none⟩) g).trans Z,(a.cell (p:=⟨wr.heap.size,3,none⟩) g).trans x3,(a.cell (p:=⟨wr.heap.size,4,none⟩) g).trans V,(a.cell (p:=⟨wr.heap.size,5,none⟩) g).trans x5,(a.cell (p:=⟨I,j+k,none⟩) Eq).trans B⟩ (λJa=>?_);clear hK K;refine tj 3 (.bool true) ?_;dsimp only[Act.put,kqg,kqc,kqb,kqa,kqf,kqe];refine tj 4 (.bool true) ?_;dsimp only[Act.put,kqg,kqc,kqb,kqa,kqf,kqe];refine sk 5 ?_;dsimp only[Act.put,kqg,kqc,kqb,kqa,kqf,kqe];refine sk 6 ?_;dsimp only[Act.put,kqg,kqc,kqb,kqa,kqf,kqe];refine sk 7 ?_;dsimp only[Act.put,kqg,kqc,kqb,kqa,kqf,kqe];refine sk 8 ?_;dsimp only[Act.put,kqg,kqc,kqb,kqa,kqf,kqe];refine sk 9 ?_;dsimp only[Act.put,kqg,kqc,kqb,kqa,kqf,kqe];refine sk 10 ?_;dsimp only[Act.put,kqg,kqc,kqb,kqa,kqf,kqe];refine sk 11 ?_;dsimp only[Act.put,kqg,kqc,kqb,kqa,kqf,kqe];refine sk 12 ?_;dsimp only[Act.put,kqg,kqc,kqb,kqa,kqf,kqe];refine sk 13 ?_
      dsimp only[Act.put,kqg,kqc,kqb,kqa,kqf,kqe];refine sk 14 ?_;dsimp only[Act.put,kqg,kqc,kqb,kqa,kqf,kqe];refine sk 15 ?_;dsimp only[Act.put,kqg,kqc,kqb,kqa,kqf,kqe];refine sk 16 ?_;dsimp only[Act.put,kqg,kqc,kqb,kqa,kqf,kqe];refine tj 17 (.bool true) ?_;dsimp only[Act.put,kqg,kqc,kqb,kqa,kqf,kqe];refine kxj (by kernel_rfl) ?_ _;obtain⟨m0,m1,m2,m3,m4,m5,m6⟩:=Ja;clear C a U T Z x3 V x5 B;go_simp;go_wp2;go_ret2;exact⟨kr HE.out (by omega),Y.trans ((G.out.trans ((kql _ _).drew.trans (J.out.mono G.out.size))).mono Jq)⟩
     cases O
     .have HY:=hid (D.out.2.2.2 rfl rfl);clear D;go_wp2_with fail;obtain⟨E,F⟩:∃E,wr.alloc (.cells #[.int .i64 z,.int .i64 xs,.int .i64 1,.int .i64 (t:Int),.bool false,.int .u64 (r:Int)] 55)=E:=⟨_,rfl⟩;have N:=Bx.new wr 55 #[.int .i64 z,.int .i64 xs,.int .i64 1,.int .i64 (t:Int),.bool false,.int .u64 (r:Int)];have o:=hB.alloc hz (.cells #[.int .i64 z,.int .i64 xs,.int .i64 1,.int .i64 (t:Int),.bool false,.int .u64 (r:Int)] 55);have d:=y.alloc (.cells #[.int .i64 z,.int .i64 xs,.int .i64 1,.int .i64 (t:Int),.bool false,.int .u64 (r:Int)] 55);have H:(wr.alloc (.cells #[.int .i64 z,.int .i64 xs,.int .i64 1,.int .i64 (t:Int),.bool false,.int .u64 (r:Int)] 55)).heap.size=wr.heap.size+1:=by simp
      have B:=(kzi wr (.cells #[.int .i64 z,.int .i64 xs,.int .i64 1,.int .i64 (t:Int),.bool false,.int .u64 (r:Int)] 55) ⟨I,j+k,none⟩ (by dsimp only;omega)).trans p0;rw[F] at N o d H B |-;clear F;have Jb:=hid (Jp.out.up o o.size);have G:=hid o;have L:=hid d;have BX:=hid N;obtain⟨U,T,Z,x3,V,x5,-,g⟩:=N.c6;have Eq:I<E.heap.size:=by omega
      clear o d N y q0 q1 q2 q3 q4 q5 p0;refine kzp (S:=λX:World=>X.cell? ⟨wr.heap.size,0,none⟩=some (.int .i64 z)/\X.cell? ⟨wr.heap.size,1,none⟩=some (.int .i64 xs)/\X.cell? ⟨wr.heap.size,2,none⟩=some (.int .i64 1)/\X.cell? ⟨wr.heap.size,3,none⟩=some (.int .i64 (t:Int))/\X.cell? ⟨wr.heap.size,4,none⟩=some (.bool false)/\X.cell? ⟨wr.heap.size,5,none⟩=some (.int .u64 (r:Int))/\X.cell? ⟨I,j+k,none⟩=some (.int .i64 (v:Int))) (by kernel_rfl) ⟨U,T,Z,x3,V,x5,B⟩ (λC=>?_);show wpAnyH _ _ _ _ _ 18 #[false,false,false,false,false,false,false,false,false,false,false,false,false,false,false,false,false,false] _ _;refine tj 0 (.slice A ws.length c) ?_;dsimp only[Act.put,kqg,kqc,kqb,kqa,kqf,kqe];refine tj 1 (.agg #[.int .i64 z,.int .i64 xs,.int .i64 1,.int .i64 (t:Int),.bool false,.int .u64 (r:Int)]) ?_
      dsimp only[Act.put,kqg,kqc,kqb,kqa,kqf,kqe];refine kzx (rs:=[2]) (by kernel_rfl) (by simp) ?_;refine AllReadyH.cons rfl (λK hK=>?_) AllReadyH.nil;go_simp;refine (HT.out E.drew (show RdW E.drew E.drew.heap.size A ws from Jb.out)).mono ?_;rintro e w5 ⟨rfl,a⟩;go_simp;have J:=hid a;refine hK.out _ _ ⟨(a.cell (p:=⟨wr.heap.size,0,none⟩) g).trans U,(a.cell (p:=⟨wr.heap.size,1,none⟩) g).trans T,(a.cell (p:=⟨wr.heap.size,2,none⟩) g).trans Z,(a.cell (p:=⟨wr.heap.size,3,none⟩) g).trans x3,(a.cell (p:=⟨wr.heap.size,4,none⟩) g).trans V,(a.cell (p:=⟨wr.heap.size,5,none⟩) g).trans x5,(a.cell (p:=⟨I,j+k,none⟩) Eq).trans B⟩ (λJa=>?_);clear hK K;refine tj 3 (.bool false) ?_;dsimp only[Act.put,kqg,kqc,kqb,kqa,kqf,kqe];refine tj 4 (.bool false) ?_;dsimp only[Act.put,kqg,kqc,kqb,kqa,kqf,kqe];refine tj 5 (.pointer (some ⟨wr.heap.size,4,none⟩)) ?_;dsimp only[Act.put,kqg,kqc,kqb,kqa,kqf,kqe];refine tj 6 (.bool false) ?_;dsimp only[Act.put,kqg,kqc,kqb,kqa,kqf,kqe];refine tj 7 (.bool false) ?_;dsimp only[Act.put,kqg,kqc,kqb,kqa,kqf,kqe];refine sk 8 ?_;dsimp only[Act.put,kqg,kqc,kqb,kqa,kqf,kqe];refine sk 9 ?_;dsimp only[Act.put,kqg,kqc,kqb,kqa,kqf,kqe];refine sk 10 ?_;dsimp only[Act.put,kqg,kqc,kqb,kqa,kqf,kqe];refine sk 11 ?_;dsimp only[Act.put,kqg,kqc,kqb,kqa,kqf,kqe]
      refine sk 12 ?_;dsimp only[Act.put,kqg,kqc,kqb,kqa,kqf,kqe];refine sk 13 ?_;dsimp only[Act.put,kqg,kqc,kqb,kqa,kqf,kqe];refine sk 14 ?_;dsimp only[Act.put,kqg,kqc,kqb,kqa,kqf,kqe];refine sk 15 ?_;dsimp only[Act.put,kqg,kqc,kqb,kqa,kqf,kqe];refine tj 16 (.bool false) ?_;dsimp only[Act.put,kqg,kqc,kqb,kqa,kqf,kqe];refine tj 17 (.bool false) ?_;dsimp only[Act.put,kqg,kqc,kqb,kqa,kqf,kqe];refine kxj (by kernel_rfl) ?_ _;obtain⟨m0,m1,m2,m3,m4,m5,m6⟩:=Ja;clear C a U T Z x3 V x5 B;go_simp;go_wp2;go_roundw
      case rel=>exact⟨k+1,by omega,by go_num,HY.out.1,by rw[HY.out.2];exact ai (show (E.drew).ownsRow _ _ _ _ _ _ from L.out) J.out (kqd _),G.out.trans ((kql _ _).drew.trans (J.out.mono G.out.size))⟩
      case measure=>simp[intOf];omega
     by_cases Jr:r=v
     .have Kv:((r:Int) != (v:Int))=false:=by rw[kqq];omega
      have Lj:=hid (pD y);have HY:=hid (D.out.2.2.1 rfl rfl Jr);clear D Jr;go_wp2_with fail;obtain⟨E,F⟩:∃E,wr.alloc (.cells #[.int .i64 z,.int .i64 xs,.int .i64 1,.int .i64 (t:Int),.bool true,.int .u64 (r:Int)] 55)=E:=⟨_,rfl⟩;have N:=Bx.new wr 55 #[.int .i64 z,.int .i64 xs,.int .i64 1,.int .i64 (t:Int),.bool true,.int .u64 (r:Int)];have o:=hB.alloc hz (.cells #[.int .i64 z,.int .i64 xs,.int .i64 1,.int .i64 (t:Int),.bool true,.int .u64 (r:Int)] 55);have d:=y.alloc (.cells #[.int .i64 z,.int .i64 xs,.int .i64 1,.int .i64 (t:Int),.bool true,.int .u64 (r:Int)] 55);have H:(wr.alloc (.cells #[.int .i64 z,.int .i64 xs,.int .i64 1,.int .i64 (t:Int),.bool true,.int .u64 (r:Int)] 55)).heap.size=wr.heap.size+1:=by simp
      have B:=(kzi wr (.cells #[.int .i64 z,.int .i64 xs,.int .i64 1,.int .i64 (t:Int),.bool true,.int .u64 (r:Int)] 55) ⟨I,j+k,none⟩ (by dsimp only;omega)).trans p0;rw[F] at N o d H B |-;clear F;have Jb:=hid (Jp.out.up o o.size);have G:=hid o;have L:=hid d;have BX:=hid N;obtain⟨U,T,Z,x3,V,x5,-,g⟩:=N.c6;have Eq:I<E.heap.size:=by omega
      clear o d N y q0 q1 q2 q3 q4 q5 p0;refine kzp (S:=λX:World=>X.cell? ⟨wr.heap.size,0,none⟩=some (.int .i64 z)/\X.cell? ⟨wr.heap.size,1,none⟩=some (.int .i64 xs)/\X.cell? ⟨wr.heap.size,2,none⟩=some (.int .i64 1)/\X.cell? ⟨wr.heap.size,3,none⟩=some (.int .i64 (t:Int))/\X.cell? ⟨wr.heap.size,4,none⟩=some (.bool true)/\X.cell? ⟨wr.heap.size,5,none⟩=some (.int .u64 (r:Int))/\X.cell? ⟨I,j+k,none⟩=some (.int .i64 (v:Int))) (by kernel_rfl) ⟨U,T,Z,x3,V,x5,B⟩ (λC=>?_);show wpAnyH _ _ _ _ _ 18 #[false,false,false,false,false,false,false,false,false,false,false,false,false,false,false,false,false,false] _ _;refine tj 0 (.slice A ws.length c) ?_;dsimp only[Act.put,kqg,kqc,kqb,kqa,kqf,kqe];refine tj 1 (.agg #[.int .i64 z,.int .i64 xs,.int .i64 1,.int .i64 (t:Int),.bool true,.int .u64 (r:Int)]) ?_
      dsimp only[Act.put,kqg,kqc,kqb,kqa,kqf,kqe];refine kzx (rs:=[2]) (by kernel_rfl) (by simp) ?_;refine AllReadyH.cons rfl (λK hK=>?_) AllReadyH.nil;go_simp;refine (HT.out E.drew (show RdW E.drew E.drew.heap.size A ws from Jb.out)).mono ?_;rintro e w5 ⟨rfl,a⟩;go_simp;have J:=hid a;refine hK.out _ _ ⟨(a.cell (p:=⟨wr.heap.size,0,none⟩) g).trans U,(a.cell (p:=⟨wr.heap.size,1,none⟩) g).trans T,(a.cell (p:=⟨wr.heap.size,2,none⟩) g).trans Z,(a.cell (p:=⟨wr.heap.size,3,none⟩) g).trans x3,(a.cell (p:=⟨wr.heap.size,4,none⟩) g).trans V,(a.cell (p:=⟨wr.heap.size,5,none⟩) g).trans x5,(a.cell (p:=⟨I,j+k,none⟩) Eq).trans B⟩ (λJa=>?_);clear hK K;refine tj 3 (.bool false) ?_;dsimp only[Act.put,kqg,kqc,kqb,kqa,kqf,kqe];refine tj 4 (.bool false) ?_;dsimp only[Act.put,kqg,kqc,kqb,kqa,kqf,kqe];refine tj 5 (.pointer (some ⟨wr.heap.size,4,none⟩)) ?_;dsimp only[Act.put,kqg,kqc,kqb,kqa,kqf,kqe];refine tj 6 (.bool true) ?_;dsimp only[Act.put,kqg,kqc,kqb,kqa,kqf,kqe];refine tj 7 (.bool true) ?_;dsimp only[Act.put,kqg,kqc,kqb,kqa,kqf,kqe];refine tj 8 (.pointer (some ⟨wr.heap.size,5,none⟩)) ?_;dsimp only[Act.put,kqg,kqc,kqb,kqa,kqf,kqe];refine tj 9 (.int .u64 (r:Int)) ?_;dsimp only[Act.put,kqg,kqc,kqb,kqa,kqf,kqe];refine tj 10 (.slice (some ⟨I,j,none⟩) l.length c2) ?_;dsimp only[Act.put,kqg,kqc,kqb,kqa,kqf,kqe];refine tj 11 (.int .i64 (k:Int)) ?_
      dsimp only[Act.put,kqg,kqc,kqb,kqa,kqf,kqe];refine tj 12 (.pointer (some ⟨I,j+k,none⟩)) ?_;dsimp only[Act.put,kqg,kqc,kqb,kqa,kqf,kqe];refine tj 13 (.int .i64 (v:Int)) ?_;dsimp only[Act.put,kqg,kqc,kqb,kqa,kqf,kqe];refine tj 14 (.int .u64 (v:Int)) ?_;dsimp only[Act.put,kqg,kqc,kqb,kqa,kqf,kqe];refine tj 15 (.bool false) ?_;dsimp only[Act.put,kqg,kqc,kqb,kqa,kqf,kqe];refine tj 16 (.bool false) ?_;dsimp only[Act.put,kqg,kqc,kqb,kqa,kqf,kqe];refine tj 17 (.bool false) ?_;dsimp only[Act.put,kqg,kqc,kqb,kqa,kqf,kqe];refine kxj (by kernel_rfl) ?_ _;obtain⟨m0,m1,m2,m3,m4,m5,m6⟩:=Ja;clear C a U T Z x3 V x5 B;go_simp;go_wp2_with fail;have Jg:=G.out.trans ((kql _ _).drew.trans (J.out.mono G.out.size));have Je:=ai (show (E.drew).ownsRow _ _ _ _ _ _ from L.out) J.out (kqd _);have Ld:=Jg.size;have Kr:=bK L.out Kt;have Kp:some wr.heap.size≠Value.ownBlock u13:=Lj.out;have hg5:wr.heap.size<w5.heap.size:=by have:=J.out.size;have:E.drew.heap.size=E.heap.size:=rfl;omega
      have hp5:I<w5.heap.size:=by omega
      have Lg:m.length+1<=maxLen:=by unfold maxLen;omega
      have Jm:(m.length+1)*16<=140737488355328:=by omega
      have Kj:=hid Jg;clear Jg m1 m2 m3 m4 m5
      first
       | (go_region_held3 (λX:World=>X.cell? ⟨wr.heap.size,0,none⟩=some (.int .i64 z)/\X.cell? ⟨I,j+k,none⟩=some (.int .i64 (v:Int)))
        (first | go_keep | (
         go_split_ands
         refine⟨?_,?_⟩
         . (rw[R.cell_far _ (by simp;omega) Kp];assumption)
         (rw[R.cell_far _ (by simp;omega) Kr];assumption)))
        ((refine step_append_lies _ (by rfl) _ _ _ (by rfl) w3.heap.size 275 i2 _ 2 16 underlying223 HJ.out Li.out La.out Kz.out rfl (by omega) u13 m.length (m.flatMap pu) (by rfl) ((show (w5.drew).ownsRow _ _ _ _ _ _ from Je).alloc _) ⟨w5.heap.size,0,none⟩ 1 1 [.int .i64 z,.int .i64 (v:Int)] (by rfl) (by rfl) (World.news_of_block (cs:=#[.int .i64 z,.int .i64 (v:Int)]) (t:=275) (fr:=(0,0)) (heap_alloc_new w5.drew _)) (by simp[Value.oneCell']) (by omega) Lg Jm (by simp;omega) (w5.heap.size+1) (by simp) ?_;intro gg cap w6 Jw R hat hlt6)))
       | fail
      go_wp2;go_roundw
      case rel=>exact⟨k+1,by omega,by go_num,HY.out.1,by rw[HY.out.2,kqu,ce];exact Jw,aC (w:=w3) (wr:=w5.drew) (Kj.out.trans (kql _ _).drew) Ld (show (w5.drew).ownsRow _ _ _ _ _ _ from Je) R⟩
      case measure=>simp[intOf];omega
     have Kv:((r:Int) != (v:Int))=true:=by rw[kqv];omega
     have HE:=hid (Ju.out (D.out.2.1 rfl rfl Jr));clear D Jr;go_wp2_with fail;obtain⟨E,F⟩:∃E,wr.alloc (.cells #[.int .i64 z,.int .i64 xs,.int .i64 1,.int .i64 (t:Int),.bool true,.int .u64 (r:Int)] 55)=E:=⟨_,rfl⟩;have N:=Bx.new wr 55 #[.int .i64 z,.int .i64 xs,.int .i64 1,.int .i64 (t:Int),.bool true,.int .u64 (r:Int)];have o:=hB.alloc hz (.cells #[.int .i64 z,.int .i64 xs,.int .i64 1,.int .i64 (t:Int),.bool true,.int .u64 (r:Int)] 55);have d:=y.alloc (.cells #[.int .i64 z,.int .i64 xs,.int .i64 1,.int .i64 (t:Int),.bool true,.int .u64 (r:Int)] 55);have H:(wr.alloc (.cells #[.int .i64 z,.int .i64 xs,.int .i64 1,.int .i64 (t:Int),.bool true,.int .u64 (r:Int)] 55)).heap.size=wr.heap.size+1:=by simp
     have B:=(kzi wr (.cells #[.int .i64 z,.int .i64 xs,.int .i64 1,.int .i64 (t:Int),.bool true,.int .u64 (r:Int)] 55) ⟨I,j+k,none⟩ (by dsimp only;omega)).trans p0;rw[F] at N o d H B |-;clear F;have Jb:=hid (Jp.out.up o o.size);have G:=hid o;have L:=hid d;have BX:=hid N;obtain⟨U,T,Z,x3,V,x5,-,g⟩:=N.c6;have Eq:I<E.heap.size:=by omega
     clear o d N y q0 q1 q2 q3 q4 q5 p0;refine kzp (S:=λX:World=>X.cell? ⟨wr.heap.size,0,none⟩=some (.int .i64 z)/\X.cell? ⟨wr.heap.size,1,none⟩=some (.int .i64 xs)/\X.cell? ⟨wr.heap.size,2,none⟩=some (.int .i64 1)/\X.cell? ⟨wr.heap.size,3,none⟩=some (.int .i64 (t:Int))/\X.cell? ⟨wr.heap.size,4,none⟩=some (.bool true)/\X.cell? ⟨wr.heap.size,5,none⟩=some (.int .u64 (r:Int))/\X.cell? ⟨I,j+k,none⟩=some (.int .i64 (v:Int))) (by kernel_rfl) ⟨U,T,Z,x3,V,x5,B⟩ (λC=>?_);show wpAnyH _ _ _ _ _ 18 #[false,false,false,false,false,false,false,false,false,false,false,false,false,false,false,false,false,false] _ _;refine tj 0 (.slice A ws.length c) ?_;dsimp only[Act.put,kqg,kqc,kqb,kqa,kqf,kqe];refine tj 1 (.agg #[.int .i64 z,.int .i64 xs,.int .i64 1,.int .i64 (t:Int),.bool true,.int .u64 (r:Int)]) ?_
     dsimp only[Act.put,kqg,kqc,kqb,kqa,kqf,kqe];refine kzx (rs:=[2]) (by kernel_rfl) (by simp) ?_;refine AllReadyH.cons rfl (λK hK=>?_) AllReadyH.nil;go_simp;refine (HT.out E.drew (show RdW E.drew E.drew.heap.size A ws from Jb.out)).mono ?_;rintro e w5 ⟨rfl,a⟩;go_simp;have J:=hid a;refine hK.out _ _ ⟨(a.cell (p:=⟨wr.heap.size,0,none⟩) g).trans U,(a.cell (p:=⟨wr.heap.size,1,none⟩) g).trans T,(a.cell (p:=⟨wr.heap.size,2,none⟩) g).trans Z,(a.cell (p:=⟨wr.heap.size,3,none⟩) g).trans x3,(a.cell (p:=⟨wr.heap.size,4,none⟩) g).trans V,(a.cell (p:=⟨wr.heap.size,5,none⟩) g).trans x5,(a.cell (p:=⟨I,j+k,none⟩) Eq).trans B⟩ (λJa=>?_);clear hK K;refine tj 3 (.bool false) ?_;dsimp only[Act.put,kqg,kqc,kqb,kqa,kqf,kqe];refine tj 4 (.bool false) ?_;dsimp only[Act.put,kqg,kqc,kqb,kqa,kqf,kqe];refine tj 5 (.pointer (some ⟨wr.heap.size,4,none⟩)) ?_;dsimp only[Act.put,kqg,kqc,kqb,kqa,kqf,kqe];refine tj 6 (.bool true) ?_;dsimp only[Act.put,kqg,kqc,kqb,kqa,kqf,kqe];refine tj 7 (.bool true) ?_;dsimp only[Act.put,kqg,kqc,kqb,kqa,kqf,kqe];refine tj 8 (.pointer (some ⟨wr.heap.size,5,none⟩)) ?_;dsimp only[Act.put,kqg,kqc,kqb,kqa,kqf,kqe];refine tj 9 (.int .u64 (r:Int)) ?_;dsimp only[Act.put,kqg,kqc,kqb,kqa,kqf,kqe];refine tj 10 (.slice (some ⟨I,j,none⟩) l.length c2) ?_;dsimp only[Act.put,kqg,kqc,kqb,kqa,kqf,kqe];refine tj 11 (.int .i64 (k:Int)) ?_
     dsimp only[Act.put,kqg,kqc,kqb,kqa,kqf,kqe];refine tj 12 (.pointer (some ⟨I,j+k,none⟩)) ?_;dsimp only[Act.put,kqg,kqc,kqb,kqa,kqf,kqe];refine tj 13 (.int .i64 (v:Int)) ?_;dsimp only[Act.put,kqg,kqc,kqb,kqa,kqf,kqe];refine tj 14 (.int .u64 (v:Int)) ?_;dsimp only[Act.put,kqg,kqc,kqb,kqa,kqf,kqe];refine tj 15 (.bool true) ?_;dsimp only[Act.put,kqg,kqc,kqb,kqa,kqf,kqe];refine tj 16 (.bool true) ?_;dsimp only[Act.put,kqg,kqc,kqb,kqa,kqf,kqe];refine tj 17 (.bool true) ?_;dsimp only[Act.put,kqg,kqc,kqb,kqa,kqf,kqe];refine kxj (by kernel_rfl) ?_ _;obtain⟨m0,m1,m2,m3,m4,m5,m6⟩:=Ja;clear C a U T Z x3 V x5 B;go_simp;go_wp2;go_ret2;exact⟨kr HE.out (by omega),Y.trans ((G.out.trans ((kql _ _).drew.trans (J.out.mono G.out.size))).mono Jq)⟩
    have hk2:(xk != 1)=true:=by rw[kqv];exact Jd
    have Jh:dC ws ⟨z,xs,xk,xt,O,r⟩=true:=ey Jd;have Jf:aV ⟨z,xs,xk,xt,O,r⟩=false:=by unfold aV;show (xk==1&&O)=false;rw[show (xk==1)=false by rw[kqi];exact Jd];rfl
    have HY:=hid (D.out.2.2.2 Jh Jf);clear Jd Jh Jf D;go_wp2;go_roundw
    case rel=>exact⟨k+1,by omega,by go_num,HY.out.1,by rw[HY.out.2];exact y.alloc _,hB.alloc hz _⟩
    case measure=>simp[intOf];omega
   have HP:=hid (CB HS.out Q.out (l:=l) (by rw[kqj];exact Jy.out) (by have:=Ko.out;rwa [kq5 (by omega)] at this));rw[kq5 (by omega)] at y;obtain⟨A4,c4,rfl,Ki,Js⟩:=kC y;have Kq:=hid Js;have Ke:=hid Ki;clear Js y Ki;go_wp2;go_ret2;exact⟨⟨A4,c4,by rw[HP.out.1,HP.out.2];rfl,by rw[HP.out.2];exact Kq.out,by rw[HP.out.2];exact Ke.out⟩,Y.trans (hB.mono Jq)⟩
 have HE:=hid (BS HS.out M);have Jz:=Gr M;clear M;rcases Jz with⟨g1,g2⟩|⟨⟨g1,g2⟩,⟨g3,g4⟩|⟨⟨g3,g4⟩,g5|⟨g5,g6⟩|⟨⟨g5,g6⟩,g7⟩⟩⟩
 all_goals
  go_enter func161,ntmps161;go_wp2_with fail;refine (aE A ws.length c w hm).mono ?_;rintro e w1 ⟨rfl,rfl⟩;rw[HI.out];go_wp2_with fail
  all_goals
   go_ret2;exact⟨kr HE.out (by omega),kql _ _⟩
theorem rz{a b:List α}(ha:k<a.length)(hb:k<b.length)(h:a.take k=b.take k)(h1:a[k]=b[k]):a.take (k+1)=b.take (k+1):=by rw[kqo ha,kqo hb,h,h1]
theorem t4[DecidableEq α]{a b:List α}(hl:a.length=b.length)(h:a.take a.length=b.take a.length):decide (a=b)=true:=by rw[kzn,kq5 (by omega)] at h;rw[kqn];exact h
theorem Bf[DecidableEq α]{a b:List α}(ha:k<a.length)(hb:k<b.length)(h1:a[k]≠b[k]):decide (a=b)=false:=by rw[kqh];rintro rfl;exact h1 rfl
theorem uo[DecidableEq α]{a b:List α}(h:a.length≠b.length):decide (a=b)=false:=by rw[kqh];rintro rfl;exact h rfl
def xT (w:World) (xs:List Nat) (e:Ending) (w':World):Prop:=∃g c,e=.returned (.slice (some ⟨g,0,none⟩) xs.length c)/\w'.ownsRow w.heap.size 53 1 (.slice (some ⟨g,0,none⟩) xs.length c) xs.length (xs.flatMap ab)/\Below w.heap.size w w'
theorem mC:(prog.info? 53).map (λi=>(i.zero,i.size,i.bytes))=some (some (.int .u64 0),1,8):=by kernel_rfl
theorem nk(ws:List Nat)(a v:Nat):(ws.set a v).flatMap ab=(ws.flatMap ab).set a (.int .u64 (v:Int)):=by
 have:=eF ab 1 bh ws a 0 (by omega) v (.int .u64 (v:Int)) (λy _=>rfl)
 simpa using this
theorem ir(ws:List Nat):(ws.flatMap ab).length=ws.length:=by rw[cj ab 1 bh];omega
theorem rI(ws:List Nat)(k:Nat)(h:k<ws.length):(ws.flatMap ab)[k]? = some (.int .u64 (ws[k]:Int)):=by
 have:=iM ab 1 bh ws k 0 h (by omega)
 simpa [ab] using this
theorem fK{v:Value}(h:w.ownsRow H e sz v n xs)(hn:0<n):∃g c,v=.slice (some ⟨g,0,none⟩) n c:=by obtain⟨g,c,a,_⟩:=h.form hn;exact⟨g,c,a⟩
theorem gp{g c:Nat}(h:w.ownsRow H e sz (.slice (some ⟨g,0,none⟩) n c) n xs):H<=g:=by
 rcases h.2 with⟨a,_⟩|⟨g',cap',cur,a,hb,_⟩
 .simp at a
 simp only[Value.slice.injEq,Option.some.injEq,Addr.mk.injEq,and_true,true_and] at a;omega
theorem Id(h:aW ws f s≠0):(ic ws f s).length=0:=by simp[ic,h]
theorem CT(ws:List Nat)(f s:Int):(ic ws f s).length<=2048:=by
 by_cases h:aW ws f s=0
 .obtain ⟨b,a,l,d,h4,c⟩:=bY h;rw[c];have hb:=mE b;have ha:=gu a;have h6:=(bG (by omega) _ _ d (by omega) (by omega) (by omega)).1;have h7:=lP l s;omega
 rw[Id h];omega
def Cq (l:List (Int × Int)) (a:Int) (k:Nat):Prop:=gN l a=gN (l.drop k) a
theorem zW{l:List (Int × Int)}(hk:k<l.length)(h:Cq l a k)(h1:l[k].1≠a):Cq l a (k+1):=by unfold Cq at h |-;rw[h,kxx hk];simp[gN,h1]
theorem FH{l:List (Int × Int)}(hk:k<l.length)(h:Cq l a k)(h1:l[k].1=a):gN l a=some l[k].2:=by unfold Cq at h;rw[h,kxx hk];simp[gN,h1]
theorem Cx{l:List (Int × Int)}(h:Cq l a l.length):gN l a=none:=by unfold Cq at h;rw[h,kj9];rfl
theorem fwTo_c(A:Option Addr)(l:List (Int × Int))(c n H:Nat)(a:Int)(w:World)(hn:l.length=n)(hm:n<=1000000)(hr:RdM w H A l)(hH:H<=w.heap.size):
 Calls prog 284 #[.slice A n c,.int .i64 a] w λe w'=>e=.returned (.tuple #[.int .i64 ((gN l a).getD 0),.bool (gN l a).isSome])/\Below w.heap.size w w':=by
 subst hn;have E:=hid (hr.more hH);have v:Hid (∀k (h:k<l.length),Cq l a k->l[k].1=a->gN l a=some l[k].2):=hid λk h C F=>FH h C F;have y:Hid (Cq l a l.length->gN l a=none):=hid Cx;obtain⟨q,B⟩:=xq (gN l a);rw[B] at v y |-;clear hr hH B;go_enter func284,ntmps284;go_wp2_with fail;go_loopw [10] (λi wr=>∃k:Nat,k<=l.length/\i=.int .i64 k/\Hid (Cq l a k)/\Below w.heap.size w wr) (λi _=>l.length-(intOf i).toNat)
 case atStart=>exact⟨0,kqy _,rfl,rfl,kql _ _⟩
 obtain⟨k,hk,rfl,r,j⟩:=hrel;have z:=j.size;by_cases g:k<l.length
 .obtain ⟨b,off,rfl,hb,t,s⟩:=RdM.at_ (Rd.below E.out j) g;have p:=hid (λh=>zW g r.out h);have f:=hid (λh=>v.out k g r.out h);obtain⟨x,u⟩:=xq (l[k]);rw[u] at t s p f;obtain⟨o,x2⟩:=x;dsimp only at t s p f;have hk1:(k:Int)<(l.length:Int):=by omega
  clear u;by_cases d:o=a
  .have D:(o==a)=true:=by rw[kqw];exact d
   have m:=hid (f.out d);clear d;go_wp2;go_ret2;exact⟨by rw[m.out];rfl,j.alloc z _⟩
  have D:(o==a)=false:=by rw[kqi];exact d
  have m:=hid (p.out d);clear d;go_wp2;go_roundw
  case rel=>exact⟨k+1,by omega,by go_num,m.out,j.alloc z _⟩
  case measure=>simp[intOf];omega
 have m:=hid (y.out (by have:=r.out;rwa [show k=l.length by omega] at this));go_wp2;go_ret2;exact⟨by rw[m.out];rfl,j⟩
theorem yO{E:List En}(hk:k<E.length):am ws (E.take (k+1))=if 0<=E[k].a/\E[k].a<(ws.length:Int) then (am ws (E.take k)).set E[k].a.toNat E[k].v else am ws (E.take k):=by rw[kqo hk,eI];simp only[am,ax]
theorem qc(E:List En):∀(ws:List Nat),(∀x∈ws,x<18446744073709551616)->(∀e∈E,e.v<18446744073709551616)->∀x∈am ws E,x<18446744073709551616:=by
 induction E with
 | nil=>intro ws h _;exact h
 | cons e E ih =>
  intro ws h c;simp only[am];refine ih _ ?_ (λx a=>c x (by simp[a]));split
  .intro x a;rcases List.mem_or_eq_of_mem_set a with b|b
   .exact h x b
   have:=c e (by simp);omega
  exact h
def il (x:Nat) (m:Bool):Bk:={ ar x with mark:=m }
def fX (x:Nat) (m:Bool):Nat:=if aB x=true then jy (il x m) else 0
def n9 (x:Nat) (m:Bool):Int:=if aB x=true then iX (il x m) else 50
theorem ov(x:Nat)(m:Bool)(w:World)(hx:x<18446744073709551616):Calls prog 205 #[.int .u64 (x:Int),.bool m] w λe w'=>e=.returned (.tuple #[.int .u64 (fX x m:Nat),.int .i64 (n9 x m)])/\Below w.heap.size w w':=by
 have a:=hid (mI x w hx);have d:(ar x).val=.agg #[.int .i64 0,.int .i64 ((x/65536%65536:Nat):Int),.int .i64 ((x%256:Nat):Int),.int .i64 ((x/512%128:Nat):Int),.bool (x/256%2==1),.int .u64 0]:=rfl;have c:(il x m).val=.agg #[.int .i64 0,.int .i64 ((x/65536%65536:Nat):Int),.int .i64 ((x%256:Nat):Int),.int .i64 ((x/512%128:Nat):Int),.bool m,.int .u64 0]:=rfl;cases f:aB x
 .have g:=hid (show fX x m=0/\n9 x m=50 by simp[fX,n9,f]);rw[(lM f).1,(lM f).2] at a;unfold mf Bk.val at a;dsimp only at a;clear f d c hx;go_enter func205,ntmps205;go_wp2_with fail;refine a.out.mono ?_;rintro e s ⟨rfl,b⟩;go_wp2;go_ret2;exact⟨by rw[g.out.1,g.out.2];rfl,b.alloc b.size _⟩
 have g:=hid (show fX x m=jy (il x m)/\n9 x m=iX (il x m) by simp[fX,n9,f]);have j:=hid (λW=>pm (il x m) W);rw[(lS f).1,(lS f).2,d] at a;rw[c] at j;obtain⟨S,n⟩:∃S,((x/65536%65536:Nat):Int)=S:=⟨_,rfl⟩;obtain⟨K,i⟩:∃K,((x%256:Nat):Int)=K:=⟨_,rfl⟩;obtain⟨T,p⟩:∃T,((x/512%128:Nat):Int)=T:=⟨_,rfl⟩;obtain⟨M,r⟩:=xq ((x/256%2==1));obtain⟨V,o⟩:=xq (jy (il x m));obtain⟨R,h⟩:=xq (iX (il x m));rw[n,i,p,r] at a;rw[n,i,p,o,h] at j;rw[o,h] at g;clear f d c hx n i p r o h;go_enter func205,ntmps205;go_wp2_with fail;refine a.out.mono ?_;rintro e s ⟨rfl,b⟩;have k:=b.size;go_wp2_with fail;refine (j.out _).mono ?_;rintro e w2 ⟨rfl,q⟩;have l:=(b.alloc k (.cells #[.int .i64 0,.int .i64 S,.int .i64 K,.int .i64 T,.bool m,.int .u64 0] 55)).trans (q.mono (by simp;omega));go_wp2;go_ret2;exact⟨by rw[g.out.1,g.out.2];rfl,l⟩
end Go.Proofs.YtpcajamacpbjcaaGreat
