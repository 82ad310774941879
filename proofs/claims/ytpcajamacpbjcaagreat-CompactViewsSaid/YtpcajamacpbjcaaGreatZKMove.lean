/- Texts laid together: Fwr SameP Same2 To Put HdM. -/
import Derived.Test.YtpcajamacpbjcaaGreatZKHeap
import Derived.Test.YtpcajamacpbjcaaGreatZKHead
import Derived.Laws.OwnMore
set_option maxHeartbeats 16000000
set_option maxRecDepth 100000
set_option linter.all false
namespace Go.Proofs.YtpcajamacpbjcaaGreat
open Lib (hid)
open Go.RowKit
variable {a f s:Int}{l:List Bk}{ws:List Nat}{xs:List Value}{H k n sz:Nat}{α:Type}{e:TypeId}{w:World}
open Go.Proofs.Tryz
def fI (m:Int × Int):List Value:=[.int .i64 m.1,.int .i64 m.2]
theorem rD(m:Int × Int):(fI m).length=2:=rfl
def RdM (w:World) (B:Nat) (A:Option Addr) (l:List (Int × Int)):Prop:=Rd w B A (l.flatMap fI)
theorem RdM.at_{B:Nat}{A:Option Addr}{l:List (Int × Int)}(h:RdM w B A l)(hk:k<l.length):
 ∃b a,A=some ⟨b,a,none⟩/\b<B/\w.cell? ⟨b,a+k*2,none⟩=some (.int .i64 l[k].1)/\w.cell? ⟨b,a+k*2+1,none⟩=some (.int .i64 l[k].2):=by obtain⟨b,a,e,d,c⟩:=Rd.at_flat rD h (by omega) hk;exact⟨b,a,e,d,c 0 (by omega),c 1 (by omega)⟩
theorem t6:(prog.info? 275).map (λi=>(i.zero,i.size,i.bytes))=some (some (.agg #[.int .i64 0,.int .i64 0]),2,16):=by kernel_rfl
def vX (ws:List Nat) (f s:Int) (e:Ending) (w':World):Prop:=∃A c,e=.returned (.tuple #[.slice A (gj ws f s).length c,.int .i64 (bi ws f s)])/\RdM w' w'.heap.size A (gj ws f s)/\(gj ws f s).length<=c
theorem kR{r:Int}{w':World}(hr:bi ws f s=r)(h0:r≠0):vX ws f s (.returned (.tuple #[.slice none 0 0,.int .i64 r])) w':=by
 subst hr;have:gj ws f s=[]:=by simp[gj,h0]
 exact⟨none,0,by rw[this];rfl,by rw[this];exact Rd.nil_,by rw[this];simp⟩
theorem El(h:gP n f s=true):
 ((f%2 != 0)=true/\(f.tmod 2 != 0)=true) \/
 ((
  f%2 != 0)=false/\(f.tmod 2 != 0)=false)/\(((s%2 != 0)=true/\(s.tmod 2 != 0)=true) \/
  ((s%2 != 0)=false/\(s.tmod 2 != 0)=false)/\(s<128\/128<=s/\f<s\/(128<=s/\s<=f)/\(n:Int)<f)):=by
 rw[kw] at h;rw[pD,pD];by_cases d:f%2=0
 .have b:(f%2 != 0)=false:=by rw[kqp];exact d
  rw[b];refine .inr ⟨⟨rfl,rfl⟩,?_⟩;by_cases c:s%2=0
  .have a:(s%2 != 0)=false:=by rw[kqp];exact c
   rw[a];refine .inr ⟨⟨rfl,rfl⟩,?_⟩;omega
  have a:(s%2 != 0)=true:=by rw[kqt];exact c
  rw[a];exact .inl ⟨rfl,rfl⟩
 have b:(f%2 != 0)=true:=by rw[kqt];exact d
 rw[b];exact .inl ⟨rfl,rfl⟩
theorem yG(h:ak (ws.length:Int)=false):bi ws f s=8:=by unfold bi;rw[eJ,h];rfl
theorem xZ(h:ak (ws.length:Int)=true)(h2:gP ws.length f s=true):bi ws f s=2:=by unfold bi;rw[eJ,h,h2];rfl
theorem vm(h:ak (ws.length:Int)=true)(h2:gP ws.length f s=false)(h3:blocks ws f.toNat=none):bi ws f s=50:=by unfold bi lf;rw[eJ,h,h2,h3];rfl
theorem zP(h:ak (ws.length:Int)=true)(h2:gP ws.length f s=false)(h3:blocks ws f.toNat=some l)(h4:bM ws l s=false):bi ws f s=50:=by rw[iA (by rw[eJ];exact h) h2 h3,h4];rfl
theorem BU(h:ak (ws.length:Int)=true)(h2:gP ws.length f s=false)(h3:blocks ws f.toNat=some l)(h4:bM ws l s=true):bi ws f s=0/\gj ws f s=aq l s:=by
 have a:bi ws f s=0:=by rw[iA (by rw[eJ];exact h) h2 h3,if_pos h4]
 exact⟨a,by unfold gj;rw[if_pos a,h3]⟩
theorem pF(h:gP n f s=false):eB n f=false:=by have:=fV h;simp only[eB,kzo,kqc,kqp];omega
theorem E8(hst:d7 l s=0)(hk:k<l.length)(h:bM ws (l.take k) s=true):
 (dA ws l[k]=false->bM ws l s=false) /\
 (dA ws l[k]=true->aA l[k]=true->l[k].next≠br l[k] (aD (l.take k) s)->bM ws l s=false) /\
 (dA ws l[k]=true->aA l[k]=true->l[k].next=br l[k] (aD (l.take k) s)->bM ws (l.take (k+1)) s=true/\aq (l.take (k+1)) s=aq (l.take k) s++[(l[k].at_,((br l[k] (aD (l.take k) s):Nat):Int))]) /\
 (dA ws l[k]=true->aA l[k]=false->bM ws (l.take (k+1)) s=true/\aq (l.take (k+1)) s=aq (l.take k) s):=by
 obtain⟨j,i,g,_⟩:=cZ hst;have hb:=gA j (kjf hk) i g;have c:=oa (ws:=ws) hk s;have f:=oB hk s;rw[h,kzz] at c;have e:aA l[k]=true->br l[k] (aD (l.take k) s)=(aD (l.take k) s).toNat:=λa=>by unfold br;rw[if_pos a]
 refine⟨λb=>?_,λb a d=>?_,λb a d=>?_,λb a=>?_⟩
 .refine qH (k:=k+1) ?_;rw[c,b];rfl
 .refine qH (k:=k+1) ?_;rw[e a] at d;rw[c,b,a,show ((l[k].next:Int)==aD (l.take k) s)=false by rw[kqi];omega];rfl
 .rw[e a] at d |-;rw[c,f,b,a,show ((l[k].next:Int)==aD (l.take k) s)=true by rw[kqu];omega,kja (by omega)];exact⟨rfl,rfl⟩
 rw[c,f,b,a];exact⟨rfl,by simp⟩
theorem gp(l:List Bk):∀s,(aq l s).length<=l.length:=by
 induction l with
 | nil=>intro s;exact kqb _
 | cons b l ih =>
  intro s;simp only[aq];split
  .have:=ih (s+b.size);simp only[kq3];omega
  have:=ih s;simp only[kq3];omega
theorem ph(A:Option Addr)(ws:List Nat)(c n:Nat)(f s:Int)(w:World)(hn:ws.length=n)(hm:n<=9223372036854775807)(hf : -9223372036854775808<=f/\f<=9223372036854775807)(hs : -9223372036854775808<=s/\s<=9223372036854775807)(hr:RdW w w.heap.size A ws)(ho:∀x∈ws,x<18446744073709551616):
 Calls prog 161 #[.slice A n c,.int .i64 f,.int .i64 s] w λe w'=>vX ws f s e w'/\Below w.heap.size w w':=by
 subst hn;have HR:=hid hr;have HO:=hid ho;obtain⟨f1,f2⟩:=hf;obtain⟨s1,s2⟩:=hs;clear hr ho;cases hs:ak (ws.length:Int)
 .have HI:=hid (bJ hs);have HE:=hid (yG (f:=f) (s:=s) hs);clear hs;go_enter func161,ntmps161;go_wp2_with fail;refine (aJ A ws.length c w hm).mono ?_;rintro e w1 ⟨rfl,rfl⟩;rw[HI.out];go_wp2;go_ret2;exact⟨kR HE.out (by omega),kqk _ _⟩
 have HI:=hid (aW hs);obtain⟨Jv,hb2,Eq⟩:=de ws hs;have HS:=hid hs;clear hs Eq;cases L:gP ws.length f s
 .have P:=hid L;obtain⟨a1,a2,a3,a4,a5⟩:=fV L;obtain⟨i,rfl⟩:=kq2 (show 0<=f by omega);obtain⟨u,rfl⟩:=kq2 (show 0<=s by omega);have Jn:=hid (λl (h:blocks ws i=some l)=>ci HS.out (pF P.out) (l:=l) (by rw[kqj];exact h));have Js:=hid (λ(h:blocks ws i=none)=>eN HS.out (pF P.out) (by rw[kqj];exact h));have Jk:=hid (λl (h:blocks ws i=some l)=>ja (ws:=ws) (i:=i) (l:=l) (by omega) h (by omega) (by omega) (by omega) (s:=(u:Int)) (by omega) (by omega) (by omega));have Jr:=hid (λl (h:blocks ws i=some l)=>(a9 (ws:=ws) (by omega) i l h (by omega) (by omega) (by omega)).1);have Jt:=hid (λl (h:blocks ws i=some l) k (hk:k<l.length) h1=>fW (ws:=ws) h (by omega) (k:=k) hk h1);have Fp:=hid (lz A ws c ws.length (i:Int) w rfl hm HR.out HO.out);unfold pm at Fp;have e1:((i:Int)%2 != 0)=false:=by rw[kqp];exact a1
  have e2:((u:Int)%2 != 0)=false:=by rw[kqp];exact a2
  have d1:decide ((u:Int)<128)=false:=by rw[kqc];omega
  have d2:decide ((i:Int)<(u:Int))=false:=by rw[kqc];omega
  have d2n:decide (i<u)=false:=by rw[kqc];omega
  have d3:decide ((ws.length:Int)<(i:Int))=false:=by rw[kqc];omega
  have d3n:decide (ws.length<i)=false:=by rw[kqc];omega
  have u0:(0:Int)<=(u:Int):=by omega
  have i0':(0:Int)<=(i:Int):=by omega
  clear L a1 a2;cases Q:blocks ws i with
  | none =>have HE:=hid (vm HS.out P.out (by rw[kqj];exact Q));rw[Js.out Q] at Fp;obtain⟨l,hl⟩:∃l,aU ws (i:Int)=l:=⟨_,rfl⟩;rw[hl] at Fp;clear Q hl;go_enter func161,ntmps161;go_wp2_with fail;refine (aJ A ws.length c w hm).mono ?_;rintro e w1 ⟨rfl,rfl⟩;rw[HI.out];go_wp2_with fail;refine Fp.out.mono ?_;rintro e w1 ⟨⟨A1,c1,rfl,-,-⟩,Jj⟩;go_wp2;go_ret2;exact⟨kR HE.out (by omega),Jj⟩
  | some l =>
   have Gl:=hid Q;have Fx:=hid (Jk.out l Q);have hlen:=Jr.out l Q;obtain⟨g1,g2⟩:=Jn.out l Q;rw[g1,g2] at Fp;have Gi:=hid (λ(A2:Option Addr) (c2:Nat) (W:World) (h:RdB W W.heap.size A2 l)=>sI A2 l c2 l.length (u:Int) W rfl (by omega) h (by omega));unfold xW at Gi;rw[Fx.out] at Gi;clear Q g1 g2;obtain⟨i2,hi,Gt,Gz,Fv⟩:=kze t6;have HJ:=hid hi;have Jg:=hid Gt;have Jq:=hid Gz;have Jh:=hid Fv;clear hi Gt Gz Fv;go_enter func161,ntmps161;go_wp2_with fail;refine (aJ A ws.length c w hm).mono ?_;rintro e w1 ⟨rfl,rfl⟩;rw[HI.out];go_wp2_with fail;refine Fp.out.mono ?_;rintro e w2 ⟨⟨A1,c1,rfl,Jd,-⟩,Gv⟩;have Fv:=Gv.size;have Gn:=hid Jd;clear Jd;go_wp2_with fail;refine (Gi.out A1 c1 _ Gn.out).mono ?_;rintro e w3 ⟨⟨A2,c2,rfl,Gp,-⟩,Gj⟩;have Eq:=Gv.trans (Gj.mono Fv);have Gb:=Eq.size;have Gq:=hid Gp;have Ja:=hid (Gn.out.up Gj Gj.size);have Gc:=hid (HR.out.up Eq Gb);clear Gp Gn;obtain⟨pl,Ga⟩:∃pl,je l (u:Int)=pl:=⟨_,rfl⟩;rw[Ga] at Gq |-;have Gf:pl.length=l.length:=by rw[<-Ga];simp[je,Fx.out,cN]
   have Gu:=hid (λk (hk:k<l.length)=>tF Fx.out hk);rw[Ga] at Gu;rw[Gf];clear Ga Gf;go_wp2_with fail;go_loopw [13,61] (λv i wr=>∃k:Nat,k<=l.length/\i=.int .i64 k/\Hid (bM ws (l.take k) (u:Int)=true)/\wr.ownsRow w3.heap.size 275 2 v (aq (l.take k) (u:Int)).length ((aq (l.take k) (u:Int)).flatMap fI)/\Below w3.heap.size w3 wr) (λ_ i _=>l.length-(intOf i).toNat)
   case atStart=>exact⟨0,kqx _,rfl,rfl,kq1 _ _ _ _,kqk _ _⟩
   obtain⟨k,hk,rfl,Gx,r,hB⟩:=hrel;have hz:=hB.size;by_cases Fy:k<l.length
   .obtain ⟨b,off,rfl,hbw,q0,q1,q2,q3,q4,q5⟩:=RdB.at_ (Ja.out.below hB) Fy;obtain⟨Ji,Gs,Jo⟩:=Gu.out k Fy;obtain⟨I,j,rfl,Gy,p0⟩:=RdI.at_ (Gq.out.below hB) Ji;rw[Gs] at p0;have E:=hid (E8 (ws:=ws) Fx.out Fy Gx.out);have Fz:=hid (Jt.out l Gl.out k Fy);have Ge:=hid (λh=>zP HS.out P.out (l:=l) (by rw[kqj];exact Gl.out) h);have Gk:=gp (l.take k) (u:Int);rw[kzd] at Gk;obtain⟨m,Gd⟩:∃m,aq (l.take k) (u:Int)=m:=⟨_,rfl⟩;rw[Gd] at r E Gk;obtain⟨v,hv⟩:∃v,br l[k] (aD (l.take k) (u:Int))=v:=⟨_,rfl⟩;rw[hv] at Jo p0 E;obtain⟨x,hx⟩:=xq (l[k]);rw[hx] at q0 q1 q2 q3 q4 q5 E Fz;obtain⟨z,xs,xk,xt,O,y⟩:=x;dsimp only at q0 q1 q2 q3 q4 q5 Fz;have hlm:(k:Int)<(l.length:Int):=by omega
    have hml2:m.length<=2048:=by omega
    have hv2:(v:Int)<=2048:=by omega
    have hv0:(0:Int)<=(v:Int):=by omega
    have hk0:(0:Int)<=(k:Int):=by omega
    have hwv:IntKind.u64.wrap (v:Int)=(v:Int):=kzi _ (by omega);clear hx Gd Gk hv Gs;by_cases Fq:xk=1
    .obtain ⟨t0,t8⟩:=Fz.out Fq;obtain⟨t,rfl⟩:=kq2 t0;subst Fq;have HT:=hid (λW (h:RdW W W.heap.size A ws)=>xH A ws c ws.length t z xs 1 O y W rfl (by omega) Jv (by omega) h HO.out);have Fr:dA ws ⟨z,xs,1,(t:Int),O,y⟩=db ws ⟨z,xs,1,(t:Int),O,y⟩:=rfl;have Fs:aA ⟨z,xs,1,(t:Int),O,y⟩=O:=rfl;rw[Fr,Fs] at E;obtain⟨q,hq⟩:∃q,db ws ⟨z,xs,1,(t:Int),O,y⟩=q:=⟨_,rfl⟩;rw[hq] at E HT;clear hq Fr Fs Fz;cases q
     .have HE:=hid (Ge.out (E.out.1 rfl));clear E;go_wp2_with fail;obtain⟨C,H⟩:∃C,wr.alloc (.cells #[.int .i64 z,.int .i64 xs,.int .i64 1,.int .i64 (t:Int),.bool O,.int .u64 (y:Int)] 55)=C:=⟨_,rfl⟩;have N:=Bx.new wr 55 #[.int .i64 z,.int .i64 xs,.int .i64 1,.int .i64 (t:Int),.bool O,.int .u64 (y:Int)];have o:=hB.alloc hz (.cells #[.int .i64 z,.int .i64 xs,.int .i64 1,.int .i64 (t:Int),.bool O,.int .u64 (y:Int)] 55);have d:=r.alloc (.cells #[.int .i64 z,.int .i64 xs,.int .i64 1,.int .i64 (t:Int),.bool O,.int .u64 (y:Int)] 55);have G:(wr.alloc (.cells #[.int .i64 z,.int .i64 xs,.int .i64 1,.int .i64 (t:Int),.bool O,.int .u64 (y:Int)] 55)).heap.size=wr.heap.size+1:=by simp
      have B:=(kq8 wr (.cells #[.int .i64 z,.int .i64 xs,.int .i64 1,.int .i64 (t:Int),.bool O,.int .u64 (y:Int)] 55) ⟨I,j+k,none⟩ (by dsimp only;omega)).trans p0;rw[H] at N o d G B |-;clear H;have R:=hid (Gc.out.up o o.size);have F:=hid o;have M:=hid d;have BX:=hid N;obtain⟨Z,x1,x2,V,x4,U,-,g⟩:=N.c6;have Y:I<C.heap.size:=by omega
      clear o d N r q0 q1 q2 q3 q4 q5 p0;refine kz9 (S:=λX:World=>X.cell? ⟨wr.heap.size,0,none⟩=some (.int .i64 z)/\X.cell? ⟨wr.heap.size,1,none⟩=some (.int .i64 xs)/\X.cell? ⟨wr.heap.size,2,none⟩=some (.int .i64 1)/\X.cell? ⟨wr.heap.size,3,none⟩=some (.int .i64 (t:Int))/\X.cell? ⟨wr.heap.size,4,none⟩=some (.bool O)/\X.cell? ⟨wr.heap.size,5,none⟩=some (.int .u64 (y:Int))/\X.cell? ⟨I,j+k,none⟩=some (.int .i64 (v:Int))) (by kernel_rfl) ⟨Z,x1,x2,V,x4,U,B⟩ (λD=>?_);show wpAnyH _ _ _ _ _ 18 #[false,false,false,false,false,false,false,false,false,false,false,false,false,false,false,false,false,false] _ _;refine tj 0 (.slice A ws.length c) ?_;dsimp only[Act.put,kqh,kqe,kqd,kqa,kqg,kqf];refine tj 1 (.agg #[.int .i64 z,.int .i64 xs,.int .i64 1,.int .i64 (t:Int),.bool O,.int .u64 (y:Int)]) ?_
      dsimp only[Act.put,kqh,kqe,kqd,kqa,kqg,kqf];refine kz4 (rs:=[2]) (by kernel_rfl) (by simp) ?_;refine AllReadyH.cons rfl (λK hK=>?_) AllReadyH.nil;go_simp;refine (HT.out C.drew (show RdW C.drew C.drew.heap.size A ws from R.out)).mono ?_;rintro e w5 ⟨rfl,a⟩;go_simp;have J:=hid a;refine hK.out _ _ ⟨(a.cell (p:=⟨wr.heap.size,0,none⟩) g).trans Z,(a.cell (p:=⟨wr.heap.size,1,none⟩) g).trans x1,(a.cell (p:=⟨wr.heap.size,2,none⟩) g).trans x2,(a.cell (p:=⟨wr.heap.size,3,none⟩) g).trans V,(a.cell (p:=⟨wr.heap.size,4,none⟩) g).trans x4,(a.cell (p:=⟨wr.heap.size,5,none⟩) g).trans U,(a.cell (p:=⟨I,j+k,none⟩) Y).trans B⟩ (λFo=>?_);clear hK K;refine tj 3 (.bool true) ?_;dsimp only[Act.put,kqh,kqe,kqd,kqa,kqg,kqf];refine tj 4 (.bool true) ?_;dsimp only[Act.put,kqh,kqe,kqd,kqa,kqg,kqf];refine sk 5 ?_;dsimp only[Act.put,kqh,kqe,kqd,kqa,kqg,kqf];refine sk 6 ?_;dsimp only[Act.put,kqh,kqe,kqd,kqa,kqg,kqf];refine sk 7 ?_;dsimp only[Act.put,kqh,kqe,kqd,kqa,kqg,kqf];refine sk 8 ?_;dsimp only[Act.put,kqh,kqe,kqd,kqa,kqg,kqf];refine sk 9 ?_;dsimp only[Act.put,kqh,kqe,kqd,kqa,kqg,kqf];refine sk 10 ?_;dsimp only[Act.put,kqh,kqe,kqd,kqa,kqg,kqf];refine sk 11 ?_;dsimp only[Act.put,kqh,kqe,kqd,kqa,kqg,kqf];refine sk 12 ?_;dsimp only[Act.put,kqh,kqe,kqd,kqa,kqg,kqf];refine sk 13 ?_
      dsimp only[Act.put,kqh,kqe,kqd,kqa,kqg,kqf];refine sk 14 ?_;dsimp only[Act.put,kqh,kqe,kqd,kqa,kqg,kqf];refine sk 15 ?_;dsimp only[Act.put,kqh,kqe,kqd,kqa,kqg,kqf];refine sk 16 ?_;dsimp only[Act.put,kqh,kqe,kqd,kqa,kqg,kqf];refine tj 17 (.bool true) ?_;dsimp only[Act.put,kqh,kqe,kqd,kqa,kqg,kqf];refine kjd (by kernel_rfl) ?_ _;obtain⟨m0,m1,m2,m3,m4,m5,m6⟩:=Fo;clear D a Z x1 x2 V x4 U B;go_simp;go_wp2;go_ret2;exact⟨kR HE.out (by omega),Eq.trans ((F.out.trans ((kqk _ _).drew.trans (J.out.mono F.out.size))).mono Gb)⟩
     cases O
     .have HY:=hid (E.out.2.2.2 rfl rfl);clear E;go_wp2_with fail;obtain⟨C,H⟩:∃C,wr.alloc (.cells #[.int .i64 z,.int .i64 xs,.int .i64 1,.int .i64 (t:Int),.bool false,.int .u64 (y:Int)] 55)=C:=⟨_,rfl⟩;have N:=Bx.new wr 55 #[.int .i64 z,.int .i64 xs,.int .i64 1,.int .i64 (t:Int),.bool false,.int .u64 (y:Int)];have o:=hB.alloc hz (.cells #[.int .i64 z,.int .i64 xs,.int .i64 1,.int .i64 (t:Int),.bool false,.int .u64 (y:Int)] 55);have d:=r.alloc (.cells #[.int .i64 z,.int .i64 xs,.int .i64 1,.int .i64 (t:Int),.bool false,.int .u64 (y:Int)] 55);have G:(wr.alloc (.cells #[.int .i64 z,.int .i64 xs,.int .i64 1,.int .i64 (t:Int),.bool false,.int .u64 (y:Int)] 55)).heap.size=wr.heap.size+1:=by simp
      have B:=(kq8 wr (.cells #[.int .i64 z,.int .i64 xs,.int .i64 1,.int .i64 (t:Int),.bool false,.int .u64 (y:Int)] 55) ⟨I,j+k,none⟩ (by dsimp only;omega)).trans p0;rw[H] at N o d G B |-;clear H;have R:=hid (Gc.out.up o o.size);have F:=hid o;have M:=hid d;have BX:=hid N;obtain⟨Z,x1,x2,V,x4,U,-,g⟩:=N.c6;have Y:I<C.heap.size:=by omega
      clear o d N r q0 q1 q2 q3 q4 q5 p0;refine kz9 (S:=λX:World=>X.cell? ⟨wr.heap.size,0,none⟩=some (.int .i64 z)/\X.cell? ⟨wr.heap.size,1,none⟩=some (.int .i64 xs)/\X.cell? ⟨wr.heap.size,2,none⟩=some (.int .i64 1)/\X.cell? ⟨wr.heap.size,3,none⟩=some (.int .i64 (t:Int))/\X.cell? ⟨wr.heap.size,4,none⟩=some (.bool false)/\X.cell? ⟨wr.heap.size,5,none⟩=some (.int .u64 (y:Int))/\X.cell? ⟨I,j+k,none⟩=some (.int .i64 (v:Int))) (by kernel_rfl) ⟨Z,x1,x2,V,x4,U,B⟩ (λD=>?_);show wpAnyH _ _ _ _ _ 18 #[false,false,false,false,false,false,false,false,false,false,false,false,false,false,false,false,false,false] _ _;refine tj 0 (.slice A ws.length c) ?_;dsimp only[Act.put,kqh,kqe,kqd,kqa,kqg,kqf];refine tj 1 (.agg #[.int .i64 z,.int .i64 xs,.int .i64 1,.int .i64 (t:Int),.bool false,.int .u64 (y:Int)]) ?_
      dsimp only[Act.put,kqh,kqe,kqd,kqa,kqg,kqf];refine kz4 (rs:=[2]) (by kernel_rfl) (by simp) ?_;refine AllReadyH.cons rfl (λK hK=>?_) AllReadyH.nil;go_simp;refine (HT.out C.drew (show RdW C.drew C.drew.heap.size A ws from R.out)).mono ?_;rintro e w5 ⟨rfl,a⟩;go_simp;have J:=hid a;refine hK.out _ _ ⟨(a.cell (p:=⟨wr.heap.size,0,none⟩) g).trans Z,(a.cell (p:=⟨wr.heap.size,1,none⟩) g).trans x1,(a.cell (p:=⟨wr.heap.size,2,none⟩) g).trans x2,(a.cell (p:=⟨wr.heap.size,3,none⟩) g).trans V,(a.cell (p:=⟨wr.heap.size,4,none⟩) g).trans x4,(a.cell (p:=⟨wr.heap.size,5,none⟩) g).trans U,(a.cell (p:=⟨I,j+k,none⟩) Y).trans B⟩ (λFo=>?_);clear hK K;refine tj 3 (.bool false) ?_;dsimp only[Act.put,kqh,kqe,kqd,kqa,kqg,kqf];refine tj 4 (.bool false) ?_;dsimp only[Act.put,kqh,kqe,kqd,kqa,kqg,kqf];refine tj 5 (.pointer (some ⟨wr.heap.size,4,none⟩)) ?_;dsimp only[Act.put,kqh,kqe,kqd,kqa,kqg,kqf];refine tj 6 (.bool false) ?_;dsimp only[Act.put,kqh,kqe,kqd,kqa,kqg,kqf];refine tj 7 (.bool false) ?_;dsimp only[Act.put,kqh,kqe,kqd,kqa,kqg,kqf];refine sk 8 ?_;dsimp only[Act.put,kqh,kqe,kqd,kqa,kqg,kqf];refine sk 9 ?_;dsimp only[Act.put,kqh,kqe,kqd,kqa,kqg,kqf];refine sk 10 ?_;dsimp only[Act.put,kqh,kqe,kqd,kqa,kqg,kqf];refine sk 11 ?_;dsimp only[Act.put,kqh,kqe,kqd,kqa,kqg,kqf]
      refine sk 12 ?_;dsimp only[Act.put,kqh,kqe,kqd,kqa,kqg,kqf];refine sk 13 ?_;dsimp only[Act.put,kqh,kqe,kqd,kqa,kqg,kqf];refine sk 14 ?_;dsimp only[Act.put,kqh,kqe,kqd,kqa,kqg,kqf];refine sk 15 ?_;dsimp only[Act.put,kqh,kqe,kqd,kqa,kqg,kqf];refine tj 16 (.bool false) ?_;dsimp only[Act.put,kqh,kqe,kqd,kqa,kqg,kqf];refine tj 17 (.bool false) ?_;dsimp only[Act.put,kqh,kqe,kqd,kqa,kqg,kqf];refine kjd (by kernel_rfl) ?_ _;obtain⟨m0,m1,m2,m3,m4,m5,m6⟩:=Fo;clear D a Z x1 x2 V x4 U B;go_simp;go_wp2;go_roundw
      case rel=>exact⟨k+1,by omega,by go_num,HY.out.1,by rw[HY.out.2];exact ae (show (C.drew).ownsRow _ _ _ _ _ _ from M.out) J.out (kqb _),F.out.trans ((kqk _ _).drew.trans (J.out.mono F.out.size))⟩
      case measure=>simp[intOf];omega
     by_cases Fw:y=v
     .have Ju:((y:Int) != (v:Int))=false:=by rw[kqp];omega
      have Jl:=hid (pG r);have HY:=hid (E.out.2.2.1 rfl rfl Fw);clear E Fw;go_wp2_with fail;obtain⟨C,H⟩:∃C,wr.alloc (.cells #[.int .i64 z,.int .i64 xs,.int .i64 1,.int .i64 (t:Int),.bool true,.int .u64 (y:Int)] 55)=C:=⟨_,rfl⟩;have N:=Bx.new wr 55 #[.int .i64 z,.int .i64 xs,.int .i64 1,.int .i64 (t:Int),.bool true,.int .u64 (y:Int)];have o:=hB.alloc hz (.cells #[.int .i64 z,.int .i64 xs,.int .i64 1,.int .i64 (t:Int),.bool true,.int .u64 (y:Int)] 55);have d:=r.alloc (.cells #[.int .i64 z,.int .i64 xs,.int .i64 1,.int .i64 (t:Int),.bool true,.int .u64 (y:Int)] 55);have G:(wr.alloc (.cells #[.int .i64 z,.int .i64 xs,.int .i64 1,.int .i64 (t:Int),.bool true,.int .u64 (y:Int)] 55)).heap.size=wr.heap.size+1:=by simp
      have B:=(kq8 wr (.cells #[.int .i64 z,.int .i64 xs,.int .i64 1,.int .i64 (t:Int),.bool true,.int .u64 (y:Int)] 55) ⟨I,j+k,none⟩ (by dsimp only;omega)).trans p0;rw[H] at N o d G B |-;clear H;have R:=hid (Gc.out.up o o.size);have F:=hid o;have M:=hid d;have BX:=hid N;obtain⟨Z,x1,x2,V,x4,U,-,g⟩:=N.c6;have Y:I<C.heap.size:=by omega
      clear o d N r q0 q1 q2 q3 q4 q5 p0;refine kz9 (S:=λX:World=>X.cell? ⟨wr.heap.size,0,none⟩=some (.int .i64 z)/\X.cell? ⟨wr.heap.size,1,none⟩=some (.int .i64 xs)/\X.cell? ⟨wr.heap.size,2,none⟩=some (.int .i64 1)/\X.cell? ⟨wr.heap.size,3,none⟩=some (.int .i64 (t:Int))/\X.cell? ⟨wr.heap.size,4,none⟩=some (.bool true)/\X.cell? ⟨wr.heap.size,5,none⟩=some (.int .u64 (y:Int))/\X.cell? ⟨I,j+k,none⟩=some (.int .i64 (v:Int))) (by kernel_rfl) ⟨Z,x1,x2,V,x4,U,B⟩ (λD=>?_);show wpAnyH _ _ _ _ _ 18 #[false,false,false,false,false,false,false,false,false,false,false,false,false,false,false,false,false,false] _ _;refine tj 0 (.slice A ws.length c) ?_;dsimp only[Act.put,kqh,kqe,kqd,kqa,kqg,kqf];refine tj 1 (.agg #[.int .i64 z,.int .i64 xs,.int .i64 1,.int .i64 (t:Int),.bool true,.int .u64 (y:Int)]) ?_
      dsimp only[Act.put,kqh,kqe,kqd,kqa,kqg,kqf];refine kz4 (rs:=[2]) (by kernel_rfl) (by simp) ?_;refine AllReadyH.cons rfl (λK hK=>?_) AllReadyH.nil;go_simp;refine (HT.out C.drew (show RdW C.drew C.drew.heap.size A ws from R.out)).mono ?_;rintro e w5 ⟨rfl,a⟩;go_simp;have J:=hid a;refine hK.out _ _ ⟨(a.cell (p:=⟨wr.heap.size,0,none⟩) g).trans Z,(a.cell (p:=⟨wr.heap.size,1,none⟩) g).trans x1,(a.cell (p:=⟨wr.heap.size,2,none⟩) g).trans x2,(a.cell (p:=⟨wr.heap.size,3,none⟩) g).trans V,(a.cell (p:=⟨wr.heap.size,4,none⟩) g).trans x4,(a.cell (p:=⟨wr.heap.size,5,none⟩) g).trans U,(a.cell (p:=⟨I,j+k,none⟩) Y).trans B⟩ (λFo=>?_);clear hK K;refine tj 3 (.bool false) ?_;dsimp only[Act.put,kqh,kqe,kqd,kqa,kqg,kqf];refine tj 4 (.bool false) ?_;dsimp only[Act.put,kqh,kqe,kqd,kqa,kqg,kqf];refine tj 5 (.pointer (some ⟨wr.heap.size,4,none⟩)) ?_;dsimp only[Act.put,kqh,kqe,kqd,kqa,kqg,kqf];refine tj 6 (.bool true) ?_;dsimp only[Act.put,kqh,kqe,kqd,kqa,kqg,kqf];refine tj 7 (.bool true) ?_;dsimp only[Act.put,kqh,kqe,kqd,kqa,kqg,kqf];refine tj 8 (.pointer (some ⟨wr.heap.size,5,none⟩)) ?_;dsimp only[Act.put,kqh,kqe,kqd,kqa,kqg,kqf];refine tj 9 (.int .u64 (y:Int)) ?_;dsimp only[Act.put,kqh,kqe,kqd,kqa,kqg,kqf];refine tj 10 (.slice (some ⟨I,j,none⟩) l.length c2) ?_;dsimp only[Act.put,kqh,kqe,kqd,kqa,kqg,kqf];refine tj 11 (.int .i64 (k:Int)) ?_
      dsimp only[Act.put,kqh,kqe,kqd,kqa,kqg,kqf];refine tj 12 (.pointer (some ⟨I,j+k,none⟩)) ?_;dsimp only[Act.put,kqh,kqe,kqd,kqa,kqg,kqf];refine tj 13 (.int .i64 (v:Int)) ?_;dsimp only[Act.put,kqh,kqe,kqd,kqa,kqg,kqf];refine tj 14 (.int .u64 (v:Int)) ?_;dsimp only[Act.put,kqh,kqe,kqd,kqa,kqg,kqf];refine tj 15 (.bool false) ?_;dsimp only[Act.put,kqh,kqe,kqd,kqa,kqg,kqf];refine tj 16 (.bool false) ?_;dsimp only[Act.put,kqh,kqe,kqd,kqa,kqg,kqf];refine tj 17 (.bool false) ?_;dsimp only[Act.put,kqh,kqe,kqd,kqa,kqg,kqf];refine kjd (by kernel_rfl) ?_ _;obtain⟨m0,m1,m2,m3,m4,m5,m6⟩:=Fo;clear D a Z x1 x2 V x4 U B;go_simp;go_wp2_with fail;have Fu:=F.out.trans ((kqk _ _).drew.trans (J.out.mono F.out.size));have Ft:=ae (show (C.drew).ownsRow _ _ _ _ _ _ from M.out) J.out (kqb _);have Jm:=Fu.size;have Jb:=eI M.out Gy;have Jc:some wr.heap.size≠Value.ownBlock u13:=Jl.out;have hg5:wr.heap.size<w5.heap.size:=by have:=J.out.size;have:C.drew.heap.size=C.heap.size:=rfl;omega
      have hp5:I<w5.heap.size:=by omega
      have Jp:m.length+1<=maxLen:=by unfold maxLen;omega
      have Gd:(m.length+1)*16<=140737488355328:=by omega
      have Je:=hid Fu;clear Fu m1 m2 m3 m4 m5
      first
       | (go_region_held3 (λX:World=>X.cell? ⟨wr.heap.size,0,none⟩=some (.int .i64 z)/\X.cell? ⟨I,j+k,none⟩=some (.int .i64 (v:Int)))
        (first | go_keep | (
         go_split_ands
         refine⟨?_,?_⟩
         . (rw[T.cell_far _ (by simp;omega) Jc];assumption)
         (rw[T.cell_far _ (by simp;omega) Jb];assumption)))
        ((refine step_append_lies _ (by rfl) _ _ _ (by rfl) w3.heap.size 275 i2 _ 2 16 underlying223 HJ.out Jg.out Jq.out Jh.out rfl (by omega) u13 m.length (m.flatMap fI) (by rfl) ((show (w5.drew).ownsRow _ _ _ _ _ _ from Ft).alloc _) ⟨w5.heap.size,0,none⟩ 1 1 [.int .i64 z,.int .i64 (v:Int)] (by rfl) (by rfl) (World.news_of_block (cs:=#[.int .i64 z,.int .i64 (v:Int)]) (t:=275) (fr:=(0,0)) (heap_alloc_new w5.drew _)) (by simp[Value.oneCell']) (by omega) Jp Gd (by simp;omega) (w5.heap.size+1) (by simp) ?_;intro gg cap w6 Gh T hat hlt6)))
       | fail
      go_wp2;go_roundw
      case rel=>exact⟨k+1,by omega,by go_num,HY.out.1,by rw[HY.out.2,kqz,b9];exact Gh,am (w:=w3) (wr:=w5.drew) (Je.out.trans (kqk _ _).drew) Jm (show (w5.drew).ownsRow _ _ _ _ _ _ from Ft) T⟩
      case measure=>simp[intOf];omega
     have Ju:((y:Int) != (v:Int))=true:=by rw[kqt];omega
     have HE:=hid (Ge.out (E.out.2.1 rfl rfl Fw));clear E Fw;go_wp2_with fail;obtain⟨C,H⟩:∃C,wr.alloc (.cells #[.int .i64 z,.int .i64 xs,.int .i64 1,.int .i64 (t:Int),.bool true,.int .u64 (y:Int)] 55)=C:=⟨_,rfl⟩;have N:=Bx.new wr 55 #[.int .i64 z,.int .i64 xs,.int .i64 1,.int .i64 (t:Int),.bool true,.int .u64 (y:Int)];have o:=hB.alloc hz (.cells #[.int .i64 z,.int .i64 xs,.int .i64 1,.int .i64 (t:Int),.bool true,.int .u64 (y:Int)] 55);have d:=r.alloc (.cells #[.int .i64 z,.int .i64 xs,.int .i64 1,.int .i64 (t:Int),.bool true,.int .u64 (y:Int)] 55);have G:(wr.alloc (.cells #[.int .i64 z,.int .i64 xs,.int .i64 1,.int .i64 (t:Int),.bool true,.int .u64 (y:Int)] 55)).heap.size=wr.heap.size+1:=by simp
     have B:=(kq8 wr (.cells #[.int .i64 z,.int .i64 xs,.int .i64 1,.int .i64 (t:Int),.bool true,.int .u64 (y:Int)] 55) ⟨I,j+k,none⟩ (by dsimp only;omega)).trans p0;rw[H] at N o d G B |-;clear H;have R:=hid (Gc.out.up o o.size);have F:=hid o;have M:=hid d;have BX:=hid N;obtain⟨Z,x1,x2,V,x4,U,-,g⟩:=N.c6;have Y:I<C.heap.size:=by omega
     clear o d N r q0 q1 q2 q3 q4 q5 p0;refine kz9 (S:=λX:World=>X.cell? ⟨wr.heap.size,0,none⟩=some (.int .i64 z)/\X.cell? ⟨wr.heap.size,1,none⟩=some (.int .i64 xs)/\X.cell? ⟨wr.heap.size,2,none⟩=some (.int .i64 1)/\X.cell? ⟨wr.heap.size,3,none⟩=some (.int .i64 (t:Int))/\X.cell? ⟨wr.heap.size,4,none⟩=some (.bool true)/\X.cell? ⟨wr.heap.size,5,none⟩=some (.int .u64 (y:Int))/\X.cell? ⟨I,j+k,none⟩=some (.int .i64 (v:Int))) (by kernel_rfl) ⟨Z,x1,x2,V,x4,U,B⟩ (λD=>?_);show wpAnyH _ _ _ _ _ 18 #[false,false,false,false,false,false,false,false,false,false,false,false,false,false,false,false,false,false] _ _;refine tj 0 (.slice A ws.length c) ?_;dsimp only[Act.put,kqh,kqe,kqd,kqa,kqg,kqf];refine tj 1 (.agg #[.int .i64 z,.int .i64 xs,.int .i64 1,.int .i64 (t:Int),.bool true,.int .u64 (y:Int)]) ?_
     dsimp only[Act.put,kqh,kqe,kqd,kqa,kqg,kqf];refine kz4 (rs:=[2]) (by kernel_rfl) (by simp) ?_;refine AllReadyH.cons rfl (λK hK=>?_) AllReadyH.nil;go_simp;refine (HT.out C.drew (show RdW C.drew C.drew.heap.size A ws from R.out)).mono ?_;rintro e w5 ⟨rfl,a⟩;go_simp;have J:=hid a;refine hK.out _ _ ⟨(a.cell (p:=⟨wr.heap.size,0,none⟩) g).trans Z,(a.cell (p:=⟨wr.heap.size,1,none⟩) g).trans x1,(a.cell (p:=⟨wr.heap.size,2,none⟩) g).trans x2,(a.cell (p:=⟨wr.heap.size,3,none⟩) g).trans V,(a.cell (p:=⟨wr.heap.size,4,none⟩) g).trans x4,(a.cell (p:=⟨wr.heap.size,5,none⟩) g).trans U,(a.cell (p:=⟨I,j+k,none⟩) Y).trans B⟩ (λFo=>?_);clear hK K;refine tj 3 (.bool false) ?_;dsimp only[Act.put,kqh,kqe,kqd,kqa,kqg,kqf];refine tj 4 (.bool false) ?_;dsimp only[Act.put,kqh,kqe,kqd,kqa,kqg,kqf];refine tj 5 (.pointer (some ⟨wr.heap.size,4,none⟩)) ?_;dsimp only[Act.put,kqh,kqe,kqd,kqa,kqg,kqf];refine tj 6 (.bool true) ?_;dsimp only[Act.put,kqh,kqe,kqd,kqa,kqg,kqf];refine tj 7 (.bool true) ?_;dsimp only[Act.put,kqh,kqe,kqd,kqa,kqg,kqf];refine tj 8 (.pointer (some ⟨wr.heap.size,5,none⟩)) ?_;dsimp only[Act.put,kqh,kqe,kqd,kqa,kqg,kqf];refine tj 9 (.int .u64 (y:Int)) ?_;dsimp only[Act.put,kqh,kqe,kqd,kqa,kqg,kqf];refine tj 10 (.slice (some ⟨I,j,none⟩) l.length c2) ?_;dsimp only[Act.put,kqh,kqe,kqd,kqa,kqg,kqf];refine tj 11 (.int .i64 (k:Int)) ?_
     dsimp only[Act.put,kqh,kqe,kqd,kqa,kqg,kqf];refine tj 12 (.pointer (some ⟨I,j+k,none⟩)) ?_;dsimp only[Act.put,kqh,kqe,kqd,kqa,kqg,kqf];refine tj 13 (.int .i64 (v:Int)) ?_;dsimp only[Act.put,kqh,kqe,kqd,kqa,kqg,kqf];refine tj 14 (.int .u64 (v:Int)) ?_;dsimp only[Act.put,kqh,kqe,kqd,kqa,kqg,kqf];refine tj 15 (.bool true) ?_;dsimp only[Act.put,kqh,kqe,kqd,kqa,kqg,kqf];refine tj 16 (.bool true) ?_;dsimp only[Act.put,kqh,kqe,kqd,kqa,kqg,kqf];refine tj 17 (.bool true) ?_;dsimp only[Act.put,kqh,kqe,kqd,kqa,kqg,kqf];refine kjd (by kernel_rfl) ?_ _;obtain⟨m0,m1,m2,m3,m4,m5,m6⟩:=Fo;clear D a Z x1 x2 V x4 U B;go_simp;go_wp2;go_ret2;exact⟨kR HE.out (by omega),Eq.trans ((F.out.trans ((kqk _ _).drew.trans (J.out.mono F.out.size))).mono Gb)⟩
    have hk2:(xk != 1)=true:=by rw[kqt];exact Fq
    have Fr:dA ws ⟨z,xs,xk,xt,O,y⟩=true:=d6 Fq;have Fs:aA ⟨z,xs,xk,xt,O,y⟩=false:=by unfold aA;show (xk==1&&O)=false;rw[show (xk==1)=false by rw[kqi];exact Fq];rfl
    have HY:=hid (E.out.2.2.2 Fr Fs);clear Fq Fr Fs E;go_wp2;go_roundw
    case rel=>exact⟨k+1,by omega,by go_num,HY.out.1,by rw[HY.out.2];exact r.alloc _,hB.alloc hz _⟩
    case measure=>simp[intOf];omega
   have HP:=hid (BU HS.out P.out (l:=l) (by rw[kqj];exact Gl.out) (by have:=Gx.out;rwa [kzb (by omega)] at this));rw[kzb (by omega)] at r;obtain⟨A4,c4,rfl,Jf,Gg⟩:=kI r;have Gw:=hid Gg;have Gr:=hid Jf;clear Gg r Jf;go_wp2;go_ret2;exact⟨⟨A4,c4,by rw[HP.out.1,HP.out.2];rfl,by rw[HP.out.2];exact Gw.out,by rw[HP.out.2];exact Gr.out⟩,Eq.trans (hB.mono Gb)⟩
 have HE:=hid (xZ HS.out L);have Gm:=El L;clear L;rcases Gm with⟨g1,g2⟩|⟨⟨g1,g2⟩,⟨g3,g4⟩|⟨⟨g3,g4⟩,g5|⟨g5,g6⟩|⟨⟨g5,g6⟩,g7⟩⟩⟩
 all_goals
  go_enter func161,ntmps161;go_wp2_with fail;refine (aJ A ws.length c w hm).mono ?_;rintro e w1 ⟨rfl,rfl⟩;rw[HI.out];go_wp2_with fail
  all_goals
   go_ret2;exact⟨kR HE.out (by omega),kqk _ _⟩
theorem ns{a b:List α}(ha:k<a.length)(hb:k<b.length)(h:a.take k=b.take k)(h1:a[k]=b[k]):a.take (k+1)=b.take (k+1):=by rw[kqq ha,kqq hb,h,h1]
theorem oX[DecidableEq α]{a b:List α}(hl:a.length=b.length)(h:a.take a.length=b.take a.length):decide (a=b)=true:=by rw[kzj,kzb (by omega)] at h;rw[kql];exact h
theorem rS[DecidableEq α]{a b:List α}(ha:k<a.length)(hb:k<b.length)(h1:a[k]≠b[k]):decide (a=b)=false:=by rw[kqc];rintro rfl;exact h1 rfl
theorem pH[DecidableEq α]{a b:List α}(h:a.length≠b.length):decide (a=b)=false:=by rw[kqc];rintro rfl;exact h rfl
theorem oJ(A B:Option Addr)(a b:List En)(n m c d H:Nat)(w:World)(hn:a.length=n)(hm:b.length=m)(h1:n<=1000000)(ha:RdE w H A a)(hb:RdE w H B b)(hH:H<=w.heap.size):
 Calls prog 31 #[.slice A n c,.slice B m d] w λe w'=>e=.returned (.bool (decide (a=b)))/\Below w.heap.size w w':=by
 subst hn hm;have HA:=hid (ha.more hH);have W:=hid (hb.more hH);clear ha hb hH;by_cases r:a.length=b.length
 .have Q:Hid (a.take a.length=b.take a.length->decide (a=b)=true):=hid λh=>oX r h;have L:Hid (∀k (h:k<a.length) (I:k<b.length),a[k]≠b[k]->decide (a=b)=false):=hid λk h I Z=>rS h I Z;obtain⟨q,V⟩:=xq (decide (a=b));rw[V] at Q L |-;have M:((a.length:Int) != (b.length:Int))=false:=by rw[kqp];omega
  have K:(a.length != b.length)=false:=by rw[kqp];exact r
  have Y:=hid r;clear V r;go_enter func31,ntmps31;go_wp2_with fail;go_loopw [5] (λi wr=>∃k:Nat,k<=a.length/\i=.int .i64 k/\Hid (a.take k=b.take k)/\Below w.heap.size w wr) (λi _=>a.length-(intOf i).toNat)
  case atStart=>exact⟨0,kqx _,rfl,rfl,kqk _ _⟩
  obtain⟨k,hk,rfl,R,D⟩:=hrel;by_cases o:k<a.length
  .have f:k<b.length:=by have:=Y.out;omega
   obtain⟨F,G,rfl,hg1,U,T⟩:=RdE.at_ (Rd.below HA.out D) o;obtain⟨E,z,rfl,hg2,O,S⟩:=RdE.at_ (Rd.below W.out D) f;have t:=hid (λh=>ns o f R.out h);have g:=hid (L.out k o f);obtain⟨x,N⟩:=xq (a[k]);obtain⟨y,P⟩:=xq (b[k]);rw[N] at U T t g;rw[P] at O S t g;obtain⟨p,C⟩:=x;obtain⟨j,u⟩:=y;dsimp only at U T O S;have hk1:(k:Int)<(a.length:Int):=by omega
   have hk2:(k:Int)<(b.length:Int):=by omega
   have hk0:(0:Int)<=(k:Int):=by omega
   clear N P;have s:((p==j)=true/\((C:Int)==(u:Int))=true)\/(p==j)=false\/(p==j)=true/\((C:Int)==(u:Int))=false:=by cases p==j<;>cases ((C:Int)==(u:Int))<;>simp
   rcases s with⟨v,J⟩|v|⟨v,J⟩
   .have l:=hid (t.out (by rw[kqu] at v J;rw[v,Int.ofNat_inj.1 J]));go_wp2_with fail
    first
     | (go_region_held3 (λX:World=>X.cell? ⟨F,G+k*2,none⟩=some (.int .i64 p)/\X.cell? ⟨F,G+k*2+1,none⟩=some (.int .u64 (C:Int))/\X.cell? ⟨E,z+k*2,none⟩=some (.int .i64 j)/\X.cell? ⟨E,z+k*2+1,none⟩=some (.int .u64 (u:Int))) (go_keep) (fail))
     | fail
    go_wp2;go_roundw
    case rel=>exact⟨k+1,by omega,by go_num,l.out,D.drew⟩
    case measure=>simp[intOf];omega
   .have l:=hid (g.out (by intro h;injection h with h1 I;rw[h1] at v;simp at v));go_wp2_with fail
    first
     | (go_region_held3 (λX:World=>X.cell? ⟨F,G+k*2,none⟩=some (.int .i64 p)/\X.cell? ⟨F,G+k*2+1,none⟩=some (.int .u64 (C:Int))/\X.cell? ⟨E,z+k*2,none⟩=some (.int .i64 j)/\X.cell? ⟨E,z+k*2+1,none⟩=some (.int .u64 (u:Int))) (go_keep) (fail))
     | fail
    go_wp2;go_ret;exact⟨by rw[l.out];rfl,D.drew⟩
   have l:=hid (g.out (by intro h;injection h with h1 I;rw[I] at J;simp at J));go_wp2_with fail
   first
    | (go_region_held3 (λX:World=>X.cell? ⟨F,G+k*2,none⟩=some (.int .i64 p)/\X.cell? ⟨F,G+k*2+1,none⟩=some (.int .u64 (C:Int))/\X.cell? ⟨E,z+k*2,none⟩=some (.int .i64 j)/\X.cell? ⟨E,z+k*2+1,none⟩=some (.int .u64 (u:Int))) (go_keep) (fail))
    | fail
   go_wp2;go_ret;exact⟨by rw[l.out];rfl,D.drew⟩
  have l:=hid (Q.out (by have:=R.out;rwa [show k=a.length by omega] at this));go_wp2;go_ret;exact⟨by rw[l.out];rfl,D⟩
 have L:=hid (pH r);have M:((a.length:Int) != (b.length:Int))=true:=by rw[kqt];omega
 have K:(a.length != b.length)=true:=by rw[kqt];exact r
 clear r;go_enter func31,ntmps31;go_wp2;go_ret;exact⟨by rw[L.out];rfl,kqk _ _⟩
def OwnW (w:World) (xs:List Nat) (e:Ending) (w':World):Prop:=∃g c,e=.returned (.slice (some ⟨g,0,none⟩) xs.length c)/\w'.ownsRow w.heap.size 53 1 (.slice (some ⟨g,0,none⟩) xs.length c) xs.length (xs.flatMap au)/\Below w.heap.size w w'
theorem lZ:(prog.info? 53).map (λi=>(i.zero,i.size,i.bytes))=some (some (.int .u64 0),1,8):=by kernel_rfl
theorem qE(ws:List Nat)(a v:Nat):(ws.set a v).flatMap au=(ws.flatMap au).set a (.int .u64 (v:Int)):=by
 have:=fi au 1 bZ ws a 0 (by omega) v (.int .u64 (v:Int)) (λy _=>rfl)
 simpa using this
theorem ki(ws:List Nat):(ws.flatMap au).length=ws.length:=by rw[bY au 1 bZ];omega
theorem qW(ws:List Nat)(k:Nat)(h:k<ws.length):(ws.flatMap au)[k]? = some (.int .u64 (ws[k]:Int)):=by
 have:=iq au 1 bZ ws k 0 h (by omega)
 simpa [au] using this
theorem jw{v:Value}(h:w.ownsRow H e sz v n xs)(hn:0<n):∃g c,v=.slice (some ⟨g,0,none⟩) n c:=by obtain⟨g,c,a,_⟩:=h.form hn;exact⟨g,c,a⟩
theorem lX{g c:Nat}(h:w.ownsRow H e sz (.slice (some ⟨g,0,none⟩) n c) n xs):H<=g:=by
 rcases h.2 with⟨a,_⟩|⟨g',cap',cur,a,hb,_⟩
 .simp at a
 simp only[Value.slice.injEq,Option.some.injEq,Addr.mk.injEq,and_true,true_and] at a;omega
theorem Eh(h:bi ws f s≠0):(gj ws f s).length=0:=by simp[gj,h]
theorem CJ(ws:List Nat)(f s:Int):(gj ws f s).length<=2048:=by
 by_cases h:bi ws f s=0
 .obtain ⟨d,c,l,b,h4,a⟩:=bU h;rw[a];have hb:=kA d;have ha:=fV c;have h6:=(a9 (by omega) _ _ b (by omega) (by omega) (by omega)).1;have h7:=gp l s;omega
 rw[Eh h];omega
def wj (l:List (Int × Int)) (a:Int) (k:Nat):Prop:=fO l a=fO (l.drop k) a
theorem qT{l:List (Int × Int)}(hk:k<l.length)(h:wj l a k)(h1:l[k].1≠a):wj l a (k+1):=by unfold wj at h |-;rw[h,kxh hk];simp[fO,h1]
theorem zq{l:List (Int × Int)}(hk:k<l.length)(h:wj l a k)(h1:l[k].1=a):fO l a=some l[k].2:=by unfold wj at h;rw[h,kxh hk];simp[fO,h1]
theorem ub{l:List (Int × Int)}(h:wj l a l.length):fO l a=none:=by unfold wj at h;rw[h,kk2];rfl
theorem fwTo_c(A:Option Addr)(l:List (Int × Int))(c n H:Nat)(a:Int)(w:World)(hn:l.length=n)(hm:n<=1000000)(hr:RdM w H A l)(hH:H<=w.heap.size):
 Calls prog 284 #[.slice A n c,.int .i64 a] w λe w'=>e=.returned (.tuple #[.int .i64 ((fO l a).getD 0),.bool (fO l a).isSome])/\Below w.heap.size w w':=by
 subst hn;have E:=hid (hr.more hH);have u:Hid (∀k (h:k<l.length),wj l a k->l[k].1=a->fO l a=some l[k].2):=hid λk h F D=>zq h F D;have t:Hid (wj l a l.length->fO l a=none):=hid ub;obtain⟨q,B⟩:=xq (fO l a);rw[B] at u t |-;clear hr hH B;go_enter func284,ntmps284;go_wp2_with fail;go_loopw [10] (λi wr=>∃k:Nat,k<=l.length/\i=.int .i64 k/\Hid (wj l a k)/\Below w.heap.size w wr) (λi _=>l.length-(intOf i).toNat)
 case atStart=>exact⟨0,kqx _,rfl,rfl,kqk _ _⟩
 obtain⟨k,hk,rfl,o,m⟩:=hrel;have y:=m.size;by_cases g:k<l.length
 .obtain ⟨b,off,rfl,hb,z,v⟩:=RdM.at_ (Rd.below E.out m) g;have p:=hid (λh=>qT g o.out h);have f:=hid (λh=>u.out k g o.out h);obtain⟨x,s⟩:=xq (l[k]);rw[s] at z v p f;obtain⟨r,x2⟩:=x;dsimp only at z v p f;have hk1:(k:Int)<(l.length:Int):=by omega
  clear s;by_cases d:r=a
  .have C:(r==a)=true:=by rw[kqu];exact d
   have j:=hid (f.out d);clear d;go_wp2;go_ret2;exact⟨by rw[j.out];rfl,m.alloc y _⟩
  have C:(r==a)=false:=by rw[kqi];exact d
  have j:=hid (p.out d);clear d;go_wp2;go_roundw
  case rel=>exact⟨k+1,by omega,by go_num,j.out,m.alloc y _⟩
  case measure=>simp[intOf];omega
 have j:=hid (t.out (by have:=o.out;rwa [show k=l.length by omega] at this));go_wp2;go_ret2;exact⟨by rw[j.out];rfl,m⟩
theorem qb{E:List En}(hk:k<E.length):aj ws (E.take (k+1))=if 0<=E[k].a/\E[k].a<(ws.length:Int) then (aj ws (E.take k)).set E[k].a.toNat E[k].v else aj ws (E.take k):=by rw[kqq hk,ey];simp only[aj,aE]
theorem sj(E:List En):∀(ws:List Nat),(∀x∈ws,x<18446744073709551616)->(∀e∈E,e.v<18446744073709551616)->∀x∈aj ws E,x<18446744073709551616:=by
 induction E with
 | nil=>intro ws h _;exact h
 | cons e E ih =>
  intro ws h c;simp only[aj];refine ih _ ?_ (λx a=>c x (by simp[a]));split
  .intro x a;rcases List.mem_or_eq_of_mem_set a with b|b
   .exact h x b
   have:=c e (by simp);omega
  exact h
theorem zU(A B:Option Addr)(ws:List Nat)(E:List En)(c d n m H:Nat)(w:World)(hn:ws.length=n)(hm:E.length=m)(h0:0<n)(hn2:n<=1000000)(hm2:m<=1000000)(hr:RdW w H A ws)(he:RdE w H B E)(hH:H<=w.heap.size):
 Calls prog 17 #[.slice A n c,.slice B m d] w λe w'=>OwnW w (aj ws E) e w':=by
 subst hm;have HR:=hid (hr.more hH);have HE:=hid (he.more hH);have HN:=hid hn;have M:=hid (ki ws);have K:Hid (∀k,(aj ws (E.take k)).length=n):=hid λk=>by rw[aE,hn]
 have P:Hid (∀k (h:k<E.length),aj ws (E.take (k+1))=if 0<=E[k].a/\E[k].a<(n:Int) then (aj ws (E.take k)).set E[k].a.toNat E[k].v else aj ws (E.take k)):=hid λk h=>by rw[qb h,hn]
 clear hr he hH hn;obtain⟨i0,hi,D,G,F⟩:=kze lZ;have HI:=hid hi;have R:=hid D;have S:=hid G;have Q:=hid F;clear hi D G F;go_enter func17,ntmps17;go_wp2_with (at_builtin;refine aI _ (by rfl) _ _ 22 rfl w.heap.size 53 i0 _ 1 8 underlying22 HI.out R.out S.out Q.out rfl (by decide) (.slice (some ⟨w.heap.size,0,none⟩) 0 0) 0 [] (by rfl) (fm w _ _ _ (kqb _)) w.heap.size A n _ (ws.flatMap au) (by rfl) (by rw[M.out,HN.out];omega) (Rd.alloc HR.out (kqb _) _) (cn lP _) (by unfold maxLen;omega) (by omega) (by simp) ?_;intro v1 wa j z;have y:=aM ((kqk w.heap.size w).alloc (kqb _) _) (by simp) (fm w w.heap.size 53 1 (kqb _)) z;simp only[kx5,kz5] at j;obtain⟨g,V,rfl⟩:=jw j (by omega);have C:=hid j;have O:=hid y;clear j y z);go_loopw [6] (λi wr=>∃k:Nat,k<=E.length/\i=.int .i64 k/\wr.ownsRow w.heap.size 53 1 (.slice (some ⟨g,0,none⟩) n V) n ((aj ws (E.take k)).flatMap au)/\Below w.heap.size w wr) (λi _=>E.length-(intOf i).toNat)
 case atStart=>exact⟨0,kqx _,rfl,C.out,O.out⟩
 obtain⟨k,hk,rfl,f,J⟩:=hrel;have hz:=J.size;have U:=lX f;by_cases I:k<E.length
 .obtain ⟨b,L,rfl,hb,p0,Z⟩:=RdE.at_ (Rd.below HE.out J) I;have q:=hid (P.out k I);obtain⟨x,W⟩:=xq (E[k]);rw[W] at p0 Z q;obtain⟨t,Y⟩:=x;dsimp only at p0 Z q;have hk1:(k:Int)<(E.length:Int):=by omega
  have hk0:(0:Int)<=(k:Int):=by omega
  have hbg:b≠g:=by omega
  have hgb:g≠b:=by omega
  clear W;by_cases o:0<=t/\t<(n:Int)
  .rw[if_pos o] at q;obtain⟨g1,g2⟩:=o;obtain⟨a,rfl⟩:=kq2 g1;rw[kqj] at q;obtain⟨l,r⟩:=xq (aj ws (E.take k));have N:=K.out k;rw[r] at q f N;have c0:=(f.cellAt a (by omega)).trans (qW l a (by omega));have f0:=f.frozenAt a;obtain⟨u,hu⟩:∃u,((l[a]'(by omega):Nat):Int)=u:=⟨_,rfl⟩;rw[hu] at c0;have HO:=hid f;clear hu f r;go_wp2_with fail
   first
    | (go_region_held3 (λX:World=>X.cell? ⟨b,L+k*2,none⟩=some (.int .i64 (a:Int))/\X.cell? ⟨b,L+k*2+1,none⟩=some (.int .u64 (Y:Int))) (go_keep) (fail))
    | fail
   go_wp2;go_roundw
   case rel =>
    refine⟨k+1,by omega,by go_num,?_,J.drew.setCell (p:=⟨g,a,none⟩) U _⟩;rw[q.out,qE];exact ((show (wr.drew).ownsRow _ _ _ _ _ _ from HO.out).stored a (.int .u64 (Y:Int))).1
   case measure=>simp[intOf];omega
  rw[if_neg o] at q;have s:t<0\/0<=t/\(n:Int)<=t:=by omega
  clear o;rcases s with h1|⟨h1,h2⟩
  all_goals
   go_wp2;go_roundw
   case rel=>exact⟨k+1,by omega,by go_num,by rw[q.out];exact f,J⟩
   case measure=>simp[intOf];omega
 rw[kzb (by omega)] at f;have T:=K.out E.length;rw[kzj] at T;go_wp2;go_ret;exact⟨g,V,by rw[T];rfl,by rw[T];exact f,J⟩
def gC (x:Nat) (m:Bool):Bk:={ ah x with mark:=m }
def fR (x:Nat) (m:Bool):Nat:=if ay x=true then iJ (gC x m) else 0
def nD (x:Nat) (m:Bool):Int:=if ay x=true then iI (gC x m) else 50
theorem od(x:Nat)(m:Bool)(w:World)(hx:x<18446744073709551616):Calls prog 205 #[.int .u64 (x:Int),.bool m] w λe w'=>e=.returned (.tuple #[.int .u64 (fR x m:Nat),.int .i64 (nD x m)])/\Below w.heap.size w w':=by
 have a:=hid (mQ x w hx);have d:(ah x).val=.agg #[.int .i64 0,.int .i64 ((x/65536%65536:Nat):Int),.int .i64 ((x%256:Nat):Int),.int .i64 ((x/512%128:Nat):Int),.bool (x/256%2==1),.int .u64 0]:=rfl;have b:(gC x m).val=.agg #[.int .i64 0,.int .i64 ((x/65536%65536:Nat):Int),.int .i64 ((x%256:Nat):Int),.int .i64 ((x/512%128:Nat):Int),.bool m,.int .u64 0]:=rfl;cases f:ay x
 .have g:=hid (show fR x m=0/\nD x m=50 by simp[fR,nD,f]);rw[(lx f).1,(lx f).2] at a;unfold lG Bk.val at a;dsimp only at a;clear f d b hx;go_enter func205,ntmps205;go_wp2_with fail;refine a.out.mono ?_;rintro e s ⟨rfl,c⟩;go_wp2;go_ret2;exact⟨by rw[g.out.1,g.out.2];rfl,c.alloc c.size _⟩
 have g:=hid (show fR x m=iJ (gC x m)/\nD x m=iI (gC x m) by simp[fR,nD,f]);have q:=hid (λW=>pO (gC x m) W);rw[(kr f).1,(kr f).2,d] at a;rw[b] at q;obtain⟨S,h⟩:∃S,((x/65536%65536:Nat):Int)=S:=⟨_,rfl⟩;obtain⟨K,l⟩:∃K,((x%256:Nat):Int)=K:=⟨_,rfl⟩;obtain⟨T,i⟩:∃T,((x/512%128:Nat):Int)=T:=⟨_,rfl⟩;obtain⟨M,r⟩:=xq ((x/256%2==1));obtain⟨V,p⟩:=xq (iJ (gC x m));obtain⟨R,k⟩:=xq (iI (gC x m));rw[h,l,i,r] at a;rw[h,l,i,p,k] at q;rw[p,k] at g;clear f d b hx h l i r p k;go_enter func205,ntmps205;go_wp2_with fail;refine a.out.mono ?_;rintro e s ⟨rfl,c⟩;have j:=c.size;go_wp2_with fail;refine (q.out _).mono ?_;rintro e w2 ⟨rfl,n⟩;have o:=(c.alloc j (.cells #[.int .i64 0,.int .i64 S,.int .i64 K,.int .i64 T,.bool m,.int .u64 0] 55)).trans (n.mono (by simp;omega));go_wp2;go_ret2;exact⟨by rw[g.out.1,g.out.2];rfl,o⟩
end Go.Proofs.YtpcajamacpbjcaaGreat
