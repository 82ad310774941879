/- TopCompact: the phases' changes, and the last one. The walk. -/
import Derived.Test.YtpcajamacpbjcaaGreatZTpQ
import Derived.Test.YtpcajamacpbjcaaGreatZKStg3
import Derived.Test.YtpcajamacpbjcaaGreatZKNx
import Derived.Test.YtpcajamacpbjcaaGreatZKLy1
import Derived.Test.YtpcajamacpbjcaaGreatZSameW
import Derived.Test.YtpcajamacpbjcaaGreatZKCursor
set_option maxHeartbeats 16000000
set_option maxRecDepth 100000
set_option linter.all false
namespace Go.Proofs.YtpcajamacpbjcaaGreat
open Lib (hid)
open Go.RowKit
open Go.Proofs.Tryz
theorem xE(A B LA:Option Addr)(ws:List Nat)(L:List Ch)(c n d q t dl:Nat)(w:World)(hn:ws.length=n)(hm:n<=9223372036854775807)(ho:∀x∈ws,x<18446744073709551616)(hLy:Lay ws t)(hc:n<=c)(hr:RdW w w.heap.size A (dI ws))(hz:RdW w w.heap.size B (cpZ ws))(hq:L.length=q)(hL:L.map Ch.l=(rsE (dI ws)).2.1)(hLo:RdC w w.heap.size LA L)(hLe:∀x∈L,RdE w w.heap.size x.A x.l):
 Calls prog 20 #[.slice A n c,.slice B n d,.slice LA q dl] w λe w'=>e=.returned (.bool true)/\Below w.heap.size w w':=by
 have hs:=hLy.size;rw[hn] at hs;have hb:=(ab _).1 hs;obtain⟨p1,Nd,-,-⟩:=hLy.first;have I:=hid (ph_at (kC ho) (hLy.run ho) p1 Nd);have R:=ph_end hLy ho;have Qq:Hid (∀p,1<=p->p<=4->∀a r W,n<=r->RdW W W.heap.size a (vK (dI ws) p)->∃f u:Nat,Calls prog 55 #[.slice a n r] W λe w'=>e=.returned (.tuple #[.agg #[.int .i64 (p:Int),.int .i64 (f:Int),.int .i64 (u:Int)],.int .i64 0])/\Below W.heap.size W w'):=hid λp h1 h4 a r W D h=>by
  have P:=I.out p h1 h4;have:=tM a (vK (dI ws) p) r n W (by rw[P.len,fv,hn]) hm D h P.lt;unfold lnV at this;rw[P.ln,if_pos rfl,P.ph] at this;exact⟨_,_,this⟩
 have Nz:Hid (∀p,1<=p->p<=4->∀a r W,n<=r->RdW W W.heap.size a (vK (dI ws) p)->Calls prog 48 #[.slice a n r] W λe w'=>(∃(L:List Ch) (B:Option Addr) (d g c:Nat),e=.returned (.tuple #[.slice B L.length d,.slice (some ⟨g,0,none⟩) n c,.int .i64 0])/\oK (dI ws) (p+1)=oK (dI ws) p++L.map Ch.l/\OwnC w' W.heap.size B d L/\w'.ownsRow W.heap.size 53 1 (.slice (some ⟨g,0,none⟩) n c) n ((vK (dI ws) (p+1)).flatMap ae))/\Below W.heap.size W w'):=hid λp h1 h4 a r W D h=>by
  have P:=I.out p h1 h4;have hl:(vK (dI ws) p).length=n:=by rw[P.len,fv,hn]
  refine (AS a (vK (dI ws) p) r n W hl hm D h P.lt).mono ?_;rintro e w' ⟨⟨L,B,d,vx,N,e2,e3,e4,-⟩,e5⟩;obtain⟨o,s1,s2⟩:=P.sg;rw[s1] at N e2 e4;dsimp only at N e2 e4;obtain⟨g,cy,rfl,-,e6⟩:=e4 rfl;rw[hl] at N e6;exact⟨⟨L,B,d,g,cy,N,by rw[s2,e2],e3,e6⟩,e5⟩
 have hqn:q<=3000:=by have h1:=(gi (kC ho) (hLy.all ho)).2.2.1;rw[fv,hn] at h1;rw[<-hq,<-kzg (f:=Ch.l),hL];omega
 have Nw:Hid (∀E∈(rsE (dI ws)).2.1,E.length<=32):=hid λE hE=>by
  obtain⟨i,hi,rfl⟩:=kq0 hE;exact ((gi (kC ho) (hLy.all ho)).2.2.2.2.2 i hi).le
 have G:=R.all;have Qi:Hid (∀p,1<=p->p<=4->(oK (dI ws) (p+1)).length<=3000):=hid λp h1 h4=>by
  have h5:(oK (dI ws) 5).length<=3000:=by have:=congrArg List.length G;rw[kqs,<-hL,kzg,hq] at this;omega
  have s1:=(I.out 1 (by omega) (by omega)).sg;have s2:=(I.out 2 (by omega) (by omega)).sg;have s3:=(I.out 3 (by omega) (by omega)).sg;have s4:=(I.out 4 (by omega) (by omega)).sg;obtain⟨o1,-,N⟩:=s1;obtain⟨o2,-,e2⟩:=s2;obtain⟨o3,-,e3⟩:=s3;obtain⟨o4,-,e4⟩:=s4;have l1:=congrArg List.length N;have l2:=congrArg List.length e2;have l3:=congrArg List.length e3;have l4:=congrArg List.length e4;simp only[kqs] at l1 l2 l3 l4;rcases (show p=1\/p=2\/p=3\/p=4 by omega) with rfl|rfl|rfl|rfl
  all_goals (simp only[Nat.reduceAdd] at l1 l2 l3 l4 |-;omega)
 have Mz:Hid (vK (dI ws) 1=dI ws/\oK (dI ws) 1=[]):=hid (by simp only[vK,oK];exact⟨trivial,trivial⟩);obtain⟨X,hX⟩:=xq (vK (dI ws) 5);rw[hX] at R G;have Ny:=hid hX;have Ld:X.length=n:=by rw[R.len,hn]
 have Mc:=hid (λa r W (D:n<=r) (h:RdW W W.heap.size a X)=>I4 a X r n W Ld hm D h R.lt);have Lh:=hid (λa r W (D:n<=r) (h:RdW W W.heap.size a X)=>pX a X r n W Ld hm D h R.lt);rw[R.en] at Mc Lh;have Kz:=(nl R.en).1;rw[Ld] at Kz;have Lc:=R.put;have Li:=R.fr;have Nl:=R.le;obtain⟨E,hE⟩:=xq (dp X);rw[hE] at Lh Kz Lc G;obtain⟨fr,Mq⟩:=xq (frN X);rw[Mq] at Mc Li Nl;unfold fL at Lh;have Qe:=Kz.le;have Mi:=hid (λa Bx r dx W (h:RdW W W.heap.size a X) (h2:RdE W W.heap.size Bx E)=>pO a Bx X E r dx n E.length W.heap.size W Ld rfl hs Qe (λe he=>by have:=Kz.ins e he;omega) h h2 (kqa _));unfold Cn at Mi;have V:=qP hLy ho;rw[hn] at V;rw[Lc,V] at Mi;have Lq:=hid (λa r W (h:RdW W W.heap.size a (cpZ ws))=>Dj a (cpZ ws) r n W V hm h (hLy.lt ho));unfold vY at Lq;have Nm:=R.wa;rw[Nm] at Lq;have Nt:=hid (λa Bx r dx W (h:RdW W W.heap.size a (cpZ ws)) (h2:RdW W W.heap.size Bx (cpZ ws))=>jr a Bx (cpZ ws) (cpZ ws) n n r dx W.heap.size W V V (by omega) h h2 (kqa _));rw[show decide (cpZ ws=cpZ ws)=true by simp] at Nt;have Na:=R.few;have O:=R.sz;obtain⟨l,hl⟩:=xq (iw (cpZ ws));rw[hl] at Lq Na O Li;have Ms:=frS_le (l:=l) λb hb hk=>(O b hb hk).1;have Sd:Hid (∀k,0<=frS (l.take k)/\frS (l.take k)<=2048):=hid λk=>by
  have:=Ms k;omega
 have Qh:Hid (∀k (hk:k<l.length),frS (l.take (k+1))=frS (l.take k)+(if l[k].kind=2 then l[k].size else 0)/\(l[k].kind=2->0<=l[k].size/\l[k].size<=2048)):=hid λk hk=>⟨Fv hk,O _ (kqn hk)⟩;have Qy:Hid (frS (l.take l.length)=(fr:Int)):=hid (by rw[kzf];exact Li);have Sc:=hid (λ(M:List Ch) (Av:Option Addr) dv W (hM:M.map Ch.l=(rsE (dI ws)).2.1) (h1:RdC W W.heap.size Av M) (h2:∀x∈M,RdE W W.heap.size x.A x.l) (h3:RdC W W.heap.size LA L) (h4:∀x∈L,RdE W W.heap.size x.A x.l)=>Eb Av LA M L dv dl M.length q W rfl hq (by rw[hM,hL]) (by rw[<-kzg (f:=Ch.l),hM,<-hL,kzg,hq];omega) h1 h3 (λx hx=>⟨h2 x hx,by have:=Nw.out x.l (by rw[<-hM];exact kx6 hx);omega⟩) h4);have Mr:=hid G;have HR:=hid hr;have HZ:=hid hz;have Qw:=hid hLo;have Qv:=hid hLe;have h256:256<=n:=by omega
 have h2048:n<=2048:=by omega
 clear hr hz hLo hLe hL G R Kz Lc O Ms hl Nm V Ld Li hX Nd p1 hLy ho hs hb hn hE Mq hq I Nw;generalize dI ws=x1 at *;generalize cpZ ws=Z at *;generalize (rsE x1).2.1=AL at *;obtain⟨i0,hi,Mo,Ns,Ky⟩:=kzr oE;have HI:=hid hi;have Np:=hid Mo;have No:=hid Ns;have Mx:=hid Ky;clear hi Mo Ns Ky;go_enter func20,ntmps20;go_wp2_with fail;go_loopw [0,7,8] (λvx vl vp wr=>∃(p:Nat) (H:List Ch) (a:Option Addr) (r:Nat),1<=p/\p<=5/\vp=.int .i64 (p:Int)/\vx=.slice a n r/\n<=r/\Hid (RdW wr wr.heap.size a (vK x1 p))/\Hid (H.map Ch.l=oK x1 p)/\H.length<=3000/\wr.ownsRow w.heap.size 26 1 vl H.length (H.flatMap Ch.cells)/\Hid (∀y∈H,wr.ownsRow w.heap.size 89 2 (.slice y.A y.l.length y.c) y.l.length (y.l.flatMap En.cells))/\Hid (Below w.heap.size w wr)) (λ_ _ v _=>5-(intOf v).toNat)
 case atStart=>exact⟨1,[],A,c,by omega,by omega,rfl,rfl,hc,by rw[Mz.out.1];exact HR,by rw[Mz.out.2];rfl,by simp,kq6 _ _ _ _,λy m=>absurd m (by simp),kqk _ _⟩
 obtain⟨p,H,a,r,Lt,Qs,rfl,rfl,D,Lo,Lr,hl1,Q,Nq,HB⟩:=hrel;by_cases hp:p<=4
 .obtain ⟨f,u,Nf⟩:=Qq.out p Lt hp a r wr D Lo.out;have Ni:=hid Nf;have hl2:=Qi.out p Lt hp;have Ly:=hid Q;have Mf:(p:Int)<=4:=by omega
  have Ql:decide ((p:Int)<=4)=true:=by rw[kqo];exact Mf
  clear Nf Q;go_wp2_with fail;refine Ni.out.mono ?_;rintro e w1 ⟨rfl,z⟩;have Mg:=HB.out.trans (z.mono HB.out.size);have Ls:=hid ((aa Ly.out z (kqa _)).alloc (.cells #[.int .i64 (p:Int),.int .i64 (f:Int),.int .i64 (u:Int)] 107));have Lj:=hid (λy m=>(aa (Nq.out y m) z (kqa _)).alloc (.cells #[.int .i64 (p:Int),.int .i64 (f:Int),.int .i64 (u:Int)] 107));have Me:=(Lo.out.up z z.size).alloc (kqa _) (.cells #[.int .i64 (p:Int),.int .i64 (f:Int),.int .i64 (u:Int)] 107);have x9:=Bx.new w1 107 #[.int .i64 (p:Int),.int .i64 (f:Int),.int .i64 (u:Int)];have Mj:=Mg.alloc Mg.size (.cells #[.int .i64 (p:Int),.int .i64 (f:Int),.int .i64 (u:Int)] 107);obtain⟨W1,Md⟩:∃W,w1.alloc (.cells #[.int .i64 (p:Int),.int .i64 (f:Int),.int .i64 (u:Int)] 107)=W:=⟨_,rfl⟩;have hs1:w1.heap.size+1=W1.heap.size:=by rw[<-Md,kqm]
  rw[Md] at Ls Lj Me x9 Mj;have Lk:=hid (Rd.more Me (show w1.heap.size<=W1.heap.size by omega));have U:=hid Mj;have X9:=hid x9;clear z Mg Me x9 Mj;go_wp2_with fail;refine (Nz.out p Lt hp a r W1 D Lk.out).mono ?_;rintro e w2 ⟨⟨L4,B4,d4,g4,c4,rfl,Ma,⟨Lw,Lv⟩,Mh⟩,C⟩;have Mw:=U.out.size;have J:=hid (aa Ls.out C (kqa _));have Lg:=hid (λy m=>aa (Lj.out y m) C (kqa _));have Le:=hid (U.out.trans (C.mono Mw));have Nc:=hid (show Rd w2 w2.heap.size B4 (L4.flatMap Ch.cells) from Rd.of_own Lw);have Lu:=hid (λy m=>am (Lv y m) Mw);have Ln:=hid Mh;have Qz:=hid Ma;have Qg:H.length+L4.length<=3000:=by have e:=congrArg List.length Ma;rw[kqs,kzg,<-Lr.out,kzg] at e;omega
  have Nr:=cK Mh;obtain⟨q0,q1,q2,-,-,-,ql⟩:=(X9.out.up C X9.out.lt).c3;have Ky:=Le.out.size;clear C Lw Lv Mh Ma X9 Md;go_wp2_with (at_builtin;refine aX _ (by rfl) _ _ 34 rfl w.heap.size 26 i0 _ 1 24 underlying34 HI.out Np.out No.out Mx.out rfl (by decide) _ H.length (H.flatMap Ch.cells) (by rfl) J.out w2.heap.size B4 L4.length d4 (L4.flatMap Ch.cells) (by rfl) (by rw[cm Ch.cells 1 Ch.len]) Nc.out (dy Ch.one _) (by unfold maxLen;omega) (by omega) Ky ?_;intro v1 wa s F;have Sa:=hid (bu Le.out Ky J.out F);have Qt:=hid (λy m=>aN (Lg.out y m) F (dg (Lg.out y m) J.out (by decide)));have Qm:=hid (λy m=>aN (Lu.out y m) F (dg (Lu.out y m) J.out (by decide)));have Qk:=hid (aN Ln.out F (dg Ln.out J.out (by decide)));have Qr:=hid s;clear s F);go_roundw
  case rel =>
   refine⟨p+1,H++L4,some ⟨g4,0,none⟩,c4,by omega,by omega,by go_num,rfl,Nr,Rd.of_own Qk.out,by rw[kxu,Lr.out];exact Qz.out.symm,by rw[kqs];exact Qg,by rw[kqs,kxc];exact Qr.out,λy m=>?_,Sa⟩;rcases kzo.1 m with m|m
   .exact Qt.out y m
   exact Qm.out y m
  case measure=>simp[intOf];omega
 have Lf:p=5:=by omega
 have HPE:=hid Lf;have Nk:=hid (show H.map Ch.l=oK x1 5 by rw[<-Lf];exact Lr.out);have My:=hid (show RdW wr wr.heap.size a X by rw[<-Ny.out,<-Lf];exact Lo.out);have Mf:¬ (p:Int)<=4:=by omega
 have Ql:decide ((p:Int)<=4)=false:=by rw[kqh];exact Mf
 have hpn2:decide (p<=4)=false:=by rw[kqh];exact hp
 have Ly:=hid Q;clear Q Lf hp Lt Qs Lo Lr;go_wp2_with fail;refine (Mc.out a r wr D My.out).mono ?_;rintro e w1 ⟨rfl,z⟩;have U:=hid (HB.out.trans (z.mono HB.out.size));have Ls:=hid (aa Ly.out z (kqa _));have Lj:=hid (λy m=>aa (Nq.out y m) z (kqa _));have Lk:=hid (My.out.up z z.size);clear z;go_wp2_with fail;refine (Lh.out a r w1 D Lk.out).mono ?_;rintro e w2 ⟨⟨A5,c5,rfl,La⟩,C⟩;have Le:=hid (U.out.trans (C.mono U.out.size));have J:=hid (aa Ls.out C (kqa _));have Lg:=hid (λy m=>aa (Lj.out y m) C (kqa _));have Ln:=hid (Lk.out.up C C.size);have Mt:=hid (am La U.out.size);clear C La;go_wp2_with fail;refine (Mi.out a A5 r c5 w2 Ln.out (Rd.of_own Mt.out)).mono ?_;rintro e w3 ⟨g6,c6,rfl,Kw,Lb⟩;have Mm:=hid (Le.out.trans (Lb.mono Le.out.size));have Qa:=hid (aa J.out Lb (kqa _));have Qu:=hid (λy m=>aa (Lg.out y m) Lb (kqa _));have Qf:=hid (aa Mt.out Lb (kqa _));have Nv:=hid (show RdW w3 w3.heap.size _ Z from Rd.of_own Kw);clear Lb Kw;go_wp2_with fail;refine (Lq.out _ c6 w3 Nv.out).mono ?_;rintro e w4 ⟨⟨A7,c7,rfl,Kx⟩,K⟩;have Ll:=hid (Mm.out.trans (K.mono Mm.out.size));have Qo:=hid (aa Qa.out K (kqa _))
 have Qc:=hid (λy m=>aa (Qu.out y m) K (kqa _));have Sf:=hid (aa Qf.out K (kqa _));have Qd:=hid (Nv.out.up K K.size);have Qb:=hid (am Kx Mm.out.size);clear K Kx;go_wp2_with fail;refine (Nt.out _ B c6 d w4 Qd.out (HZ.out.up Ll.out Ll.out.size)).mono ?_;rintro e w5 ⟨rfl,T⟩;have Mp:=hid (Ll.out.trans (T.mono Ll.out.size));have Eq:=hid (aa Qo.out T (kqa _));have Ng:=hid (λy m=>aa (Qc.out y m) T (kqa _));have Nh:=hid (aa Sf.out T (kqa _));have Mv:=hid (aa Qb.out T (kqa _));have Qn:=Mp.out.size;clear T;have Nb:(w5.alloc (.cells #[.slice A5 E.length c5] 26)).ownsRow w5.heap.size 26 1 (.slice (some ⟨w5.heap.size,0,none⟩) 1 1) 1 [.slice A5 E.length c5]:=cJ (n:=1) (sz:=1) w5 26 #[.slice A5 E.length c5] (kqa _) (by rfl) (by unfold maxLen;omega);have Se:=hid (show Rd (w5.alloc (.cells #[.slice A5 E.length c5] 26)) (w5.alloc (.cells #[.slice A5 E.length c5] 26)).heap.size (some ⟨w5.heap.size,0,none⟩) [.slice A5 E.length c5] from Rd.of_own Nb);clear Nb
 go_wp2_with (at_builtin;refine aX _ (by rfl) _ _ 34 rfl w.heap.size 26 i0 _ 1 24 underlying34 HI.out Np.out No.out Mx.out rfl (by decide) _ H.length (H.flatMap Ch.cells) (by rfl) (Eq.out.alloc _) _ (some ⟨w5.heap.size,0,none⟩) 1 1 [.slice A5 E.length c5] (by rfl) (by rfl) Se.out (by simp[Value.oneCell']) (by unfold maxLen;omega) (by omega) (by simp;omega) ?_;intro v1 w6 s F;have Y:=hid (bu (Mp.out.alloc Qn _) (by simp;omega) (Eq.out.alloc _) F);have Sb:=hid (λy m=>aN ((Ng.out y m).alloc _) F (dg (Ng.out y m) Eq.out (by decide)));have Qx:=hid (aN (Nh.out.alloc _) F (dg Nh.out Eq.out (by decide)));have Qp:=hid (aN (Mv.out.alloc _) F (dg Mv.out Eq.out (by decide)));obtain⟨Av,dv,rfl⟩:=aE s;have Qj:=hid s;clear s F);have Mn:=Sc.out (H++[(⟨A5,c5,E⟩:Ch)]) Av dv w6 (by rw[kxu,Nk.out,Mr.out];rfl) (show Rd w6 w6.heap.size Av ((H++[(⟨A5,c5,E⟩:Ch)]).flatMap Ch.cells) from by rw[kxc];exact Rd.of_own Qj.out) (λx hx=>by
  rcases kzo.1 hx with hx|hx
  .exact Rd.of_own (Sb.out x hx)
  rw[kqy] at hx;subst hx;exact Rd.of_own Qx.out) (Qw.out.up Y.out Y.out.size) (λx hx=>(Qv.out x hx).up Y.out Y.out.size)
 rw[show (H++[(⟨A5,c5,E⟩:Ch)]).length=H.length+1 from by rw[kqs];rfl] at Mn;refine Mn.mono ?_;rintro e w7 ⟨rfl,Ml⟩;have Nu:=hid (Y.out.trans (Ml.mono Y.out.size));have Nx:=hid (show RdB w7 w7.heap.size A7 l from Rd.of_own (aa Qp.out Ml (kqa _)));clear Ml Mn;go_wp2_with fail;go_loopw [22,23] (λvs vi wr=>∃j:Nat,j<=l.length/\vi=.int .i64 j/\vs=.int .i64 (frS (l.take j))/\Hid (Below w7.heap.size w7 wr)) (λ_ i _=>l.length-(intOf i).toNat)
 case atStart=>exact⟨0,kqz _,rfl,rfl,kqk _ _⟩
 obtain⟨j,hj,rfl,rfl,Lm⟩:=hrel;by_cases Lp:j<l.length
 .obtain ⟨b9,o9,rfl,hb9,-,z1,z2,-,-,-⟩:=RdB.at_ (show RdB wr w7.heap.size A7 l from Rd.below Nx.out Lm.out) Lp;obtain⟨N,e2⟩:=Qh.out j Lp;obtain⟨b1,b2⟩:=Sd.out j;have hj0:(0:Int)<=(j:Int):=by omega
  have hji:(j:Int)<(l.length:Int):=by omega
  obtain⟨kd,Lz⟩:=xq (l[j].kind);obtain⟨sz,Mb⟩:=xq (l[j].size);rw[Lz,Mb] at N e2;rw[Lz] at z2;rw[Mb] at z1;obtain⟨s0,Nj⟩:=xq (frS (l.take j));rw[Nj] at N b1 b2 |-;clear Lz Mb Nj;by_cases S:kd=2
  .rw[if_pos S] at N;obtain⟨f1,f2⟩:=e2 S;have Lx:=hid N;subst S;clear N e2;go_wp2;go_roundw
   case rel=>exact⟨j+1,by omega,by go_num,by rw[Lx.out],Lm⟩
   case measure=>simp[intOf];omega
  rw[if_neg S] at N;have Lx:=hid N;have hkb:(kd==2)=false:=by rw[kqi];exact S
  clear N e2 S;go_wp2;go_roundw
  case rel=>exact⟨j+1,by omega,by go_num,by rw[Lx.out,Int.add_zero],Lm⟩
  case measure=>simp[intOf];omega
 have Mu:j=l.length:=by omega
 have hjd:decide ((j:Int)<(l.length:Int))=false:=by rw[kqh];omega
 have hjd2:decide (j<l.length)=false:=by rw[kqh];exact Lp
 have Nn:frS (l.take j)=(fr:Int):=by rw[Mu];exact Qy.out
 rw[Nn];clear Mu Nn Lp hj;go_wp2;go_ret;exact⟨rfl,Nu.out.trans (Lm.out.mono Nu.out.size)⟩
end Go.Proofs.YtpcajamacpbjcaaGreat
