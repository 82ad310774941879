/- CompactDevice: the walk. -/
import Derived.Test.YtpcajamacpbjcaaGreatZDeQ
import Derived.Test.YtpcajamacpbjcaaGreatZKCo
import Derived.Test.YtpcajamacpbjcaaGreatZKR19
set_option maxHeartbeats 16000000
set_option maxRecDepth 100000
set_option linter.all false
namespace Go.Proofs.YtpcajamacpbjcaaGreat
open Lib (hid)
open Go.RowKit
open Go.Proofs.Tryz
theorem RdW.all{w:World}{B:Nat}{A:Option Addr}{l:List Nat}(h:RdW w B A l)(hn:0<l.length):∃b a,A=some ⟨b,a,none⟩/\b<B/\∀j (d:j<l.length),w.cell? ⟨b,a+j,none⟩=some (.int .u64 (l[j]:Int)):=by obtain⟨b,a,e,f,-⟩:=RdW.at_ h hn;refine⟨b,a,e,f,λj d=>?_⟩;obtain⟨b2,off2,c,-,g⟩:=RdW.at_ h d;rw[e] at c;injection c with c;injection c with h1 h2 h3;rw[h1,h2];exact g
theorem kG(A:Option Addr)(ws:List Nat)(c n:Nat)(w:World)(hn:ws.length=n)(hm:n<=9223372036854775807)(hc:n<=c)(hr:RdW w w.heap.size A ws)(ho:∀x∈ws,x<18446744073709551616):
 Calls prog 10 #[.slice A n c] w λe w'=>e=.returned (.bool true)/\Below w.heap.size w w':=by
 have HR:=hid hr;have HG:=hid (λW=>By A n c W hm);have Kj:=hid (λW (h:RdW W W.heap.size A ws)=>yz A ws c n W hn hm hc h ho);cases hg:pI n
 .rw[hg] at HG;by_cases h0:bN ws=0
  .rw[h0] at Kj;obtain⟨hs,hl⟩:=gc h0;obtain⟨t,L⟩:=mm hl;have hb:=(aa _).1 hs;obtain⟨l,m,q,DE⟩:=deF L ho;have Mu:=DE.le;have Np:=DE.pos;have HV:=hid (λW (h:RdW W W.heap.size A ws)=>qM A ws c n W hn hm hc h ho);unfold Hr at HV;rw[h0,hn] at HV;have Ld:=hid (λW (h:RdW W W.heap.size A ws)=>ww A ws c n W hn hm hc h ho);rw[DE.eff] at Ld;unfold gy at Ld;have Q:=hid (λW (h:RdW W W.heap.size A ws)=>Iz A ws n c W hn (by rw[<-hn];exact hs) h);unfold lx at Q;dsimp only[List.length_nil] at Q;rw[hn] at Q;obtain⟨y,f1,hy⟩:∃x f,coR ⟨ws,[],-1,false⟩=(x,f):=⟨_,_,rfl⟩;obtain⟨z,f2,hz⟩:∃x f,coR ⟨ws,[],l+m+q,false⟩=(x,f):=⟨_,_,rfl⟩;obtain⟨rfl,y2,y3,-,y5⟩:=mn L ho (.inl rfl) (by omega) hy;obtain⟨rfl,z2,z3,z4,z5⟩:=mn L ho (.inr DE.sum.symm) (by omega) hz;obtain⟨z41,z42⟩:=z4 (by omega);have C:=hid (λB d D e W (hd:n<=d) (h:RdW W W.heap.size B ws)=>AZ B D ws [] (-1) false n d 0 e W hn rfl hm (by omega) hd ⟨ho,λe he=>absurd he (by simp)⟩ h Rd.nil_);have u:=hid (λB d D e W (hd:n<=d) (h:RdW W W.heap.size B ws)=>AZ B D ws [] (l+m+q) false n d 0 e W hn rfl hm (by omega) hd ⟨ho,λe he=>absurd he (by simp)⟩ h Rd.nil_);unfold lx at C u;rw[hy] at C;rw[hz] at u;dsimp only at C u;obtain⟨yi,yd,yl,yn⟩:=y
   obtain⟨zi,zd,zl,zn⟩:=z;dsimp only at y2 y3 y5 z2 z3 z41 z42 z5 C u;subst y2 z2 z41 z42;rw[hn] at y3 z3;rw[y3] at C;rw[z3] at u;dsimp only[List.length_nil] at C u;have Y:=zg L ho;rw[hn] at Y hb Mu;have Mx:=hid (λW=>Id (n:Int) W);have Lt:ul (n:Int)=.tuple #[.agg #[.int .i64 (20*((n:Int)-128)+200),.int .i64 (20*((n:Int)-128)+200),.int .i64 (20*((n:Int)-128)+200)],.int .i64 0]:=by
    have h1:qr (n:Int)=0:=by unfold qr;rw[if_neg (by omega),if_neg (by omega),if_pos (by omega)]
    unfold ul bdN;rw[h1,if_pos rfl];rfl
   rw[Lt] at Mx;have Mr:=hid (λB d W (h:RdE W W.heap.size B [⟨16,1⟩])=>of_c B [⟨16,1⟩] d W (by decide) h);rw[show jt (au [⟨16,1⟩])=.tuple #[.agg #[.int .i64 5,.int .i64 4,.int .i64 4],.int .i64 0] from by rfl] at Mr;have Lx:=hid (λk (hk:k<n) (h:k<32\/96<=k)=>(show ∃v:Nat,(∃h:k<yi.length,yi[k]=v)/\(∃h:k<zi.length,zi[k]=v)/\∃h:k<(cpZ ws).length,(cpZ ws)[k]=v from by
    refine⟨wd (cpZ ws) k,⟨by omega,?_⟩,⟨by omega,?_⟩,by omega,(cA (by omega)).symm⟩
    .rw[<-cA (by omega)];exact y5 k h
    rw[<-cA (by omega)];exact z5 k h))
   have Ng:=hid y3;have Nn:=hid z3;have Nk:=hid Y;have h256:256<=n:=by omega
   have h2048:n<=2048:=by omega
   obtain⟨le1,le2,le3⟩:=Mu;obtain⟨ps1,ps2,ps3⟩:=Np;have hw1:IntKind.i64.wrap (l+m)=l+m:=kqs _ (by omega);have hw2:IntKind.i64.wrap (l+m+q)=l+m+q:=kqs _ (by omega);clear hs hl h0 hr ho hg hn L DE hb Lt y3 y5 z3 z4 z5 hy hz Y;generalize cpZ ws=Z at *;go_enter func10,ntmps10;go_wp2_with fail;refine (oq w).mono ?_;rintro e w1 ⟨rfl,F⟩;have j:=hid F;clear F;go_wp2_with fail;refine (HG.out _).mono ?_;rintro e w1' ⟨rfl,rfl⟩;go_wp2_with fail;refine (Kj.out _ (HR.out.up j.out j.out.size)).mono ?_;rintro e w2 ⟨rfl,S⟩;have N:=hid (j.out.trans (S.mono j.out.size));clear S;go_wp2_with fail;refine (HV.out _ (HR.out.up N.out N.out.size)).mono ?_;rintro e w3 ⟨⟨hv,-⟩,My⟩;obtain⟨gz,cz,rfl,I⟩:=hv trivial;have Ki:=hid (N.out.trans (My.mono N.out.size));have Nd:=hid (show RdW _ _ _ Z from Rd.of_own I);have hcz:=cH I;clear hv I My;go_wp2_with fail;refine (Ld.out _ (HR.out.up Ki.out Ki.out.size)).mono ?_;rintro e w4 ⟨rfl,R⟩;have Lz:=(kqk w4.heap.size w4).alloc (kqa _) (.cells #[.int .i64 l,.int .i64 m,.int .i64 q] 61);have Lm:=Ki.out.trans ((R.trans (Lz.mono R.size)).mono Ki.out.size);have Le:=hid ((Nd.out.up R R.size).alloc (kqa _) (.cells #[.int .i64 l,.int .i64 m,.int .i64 q] 61))
   have XE4:=Bx.new w4 61 #[.int .i64 l,.int .i64 m,.int .i64 q];obtain⟨W4,Lk⟩:=xq (w4.alloc (.cells #[.int .i64 l,.int .i64 m,.int .i64 q] 61));rw[Lk] at Lm Le XE4;have Nj:w4.heap.size+1=W4.heap.size:=by rw[<-Lk,kqm]
   have M:=hid Lm;have Lc:=hid XE4;have Kp:=hid (Rd.more Le.out (show w4.heap.size<=W4.heap.size by omega));clear Lm XE4 Le R Lz;go_wp2_with fail;refine (Q.out W4 (HR.out.up M.out M.out.size)).mono ?_;rintro e b ⟨⟨_,rfl,Ad,cd,DAd,dcd,rfl,Mh,Mm,-⟩,X⟩;have Ll:=X.size;have Ks:=hid ((kqk b.heap.size b).alloc (kqa _) (.cells #[.slice none 0 0,.slice none 0 0,.int .i64 0,.bool false] 79));have Mt:=hid (M.out.trans ((X.trans (Ks.out.mono Ll)).mono M.out.size));have Mg:=hid ((Lc.out.up X Lc.out.lt).alloc (.cells #[.slice none 0 0,.slice none 0 0,.int .i64 0,.bool false] 79));have Lr:=hid (show RdW (b.alloc (.cells #[.slice none 0 0,.slice none 0 0,.int .i64 0,.bool false] 79)) b.heap.size _ Z from (Kp.out.up X Ll).alloc (kqa _) _);have Mw:=hid (show RdW (b.alloc (.cells #[.slice none 0 0,.slice none 0 0,.int .i64 0,.bool false] 79)) b.heap.size Ad ws from (show RdW b b.heap.size Ad ws from Rd.of_own Mm).alloc (kqa _) _);have X8:=hid (Bx.new b 79 #[.slice none 0 0,.slice none 0 0,.int .i64 0,.bool false]);have Lj:w4.heap.size≠b.heap.size:=by omega
   clear X Mm Lk Lc Kp Q;go_wp2_with (first
    | (((with_reducible refine ar 79 (.tmp 8) _ ?_);refine stD X8.out ?_;intro w6 U8 Kb);have E6:=hid (Kb.out.bx Mg.out Lj);obtain⟨k0,k1,k2,-,-,-,klt⟩:=E6.out.c3)
    | ((with_reducible refine aN 79 (.tmp 8) ?_);refine ldD U8.out ?_))
   have Ln:=hid (Kb.out.below Mt.out (show w.heap.size<=b.heap.size by have:=M.out.size;omega));have Me:=hid (Rd.below Lr.out (Kb.out.2.2 _ (kqa _)));have Lo:=hid (Rd.below Mw.out (Kb.out.2.2 _ (kqa _)));have O:b.heap.size<w6.heap.size:=U8.out.lt;clear Kb Mt Mg Lr Mw X8 Ks k0 k1 k2 klt;refine (C.out Ad cd DAd dcd w6 Mh (Rd.more Lo.out (kxn O))).mono ?_;rintro e P ⟨⟨_,rfl,Ay,cy,DAy,dcy,rfl,hcy,Mc,-⟩,H⟩;have Ml:=H.size;have V:=hid ((kqk P.heap.size P).alloc (kqa _) (.cells #[.slice none 0 0,.slice none 0 0,.int .i64 0,.bool false] 79));have Ly:=hid (Ln.out.trans ((H.trans (V.out.mono Ml)).mono Ln.out.size));have E7:=hid ((E6.out.up H E6.out.lt).alloc (.cells #[.slice none 0 0,.slice none 0 0,.int .i64 0,.bool false] 79));have D7:=hid ((U8.out.up H O).alloc (.cells #[.slice none 0 0,.slice none 0 0,.int .i64 0,.bool false] 79));have Mj:=hid (show RdW (P.alloc (.cells #[.slice none 0 0,.slice none 0 0,.int .i64 0,.bool false] 79)) b.heap.size _ Z from (Rd.below Me.out (H.mono (kxn O))).alloc (by omega) _);have Mb:=hid (show RdW (P.alloc (.cells #[.slice none 0 0,.slice none 0 0,.int .i64 0,.bool false] 79)) b.heap.size Ad ws from (Rd.below Lo.out (H.mono (kxn O))).alloc (by omega) _);have Ms:=hid Mc;have X11:=hid (Bx.new P 79 #[.slice none 0 0,.slice none 0 0,.int .i64 0,.bool false]);have Lb:b.heap.size≠P.heap.size:=by omega
   have Kw:w4.heap.size≠P.heap.size:=by omega
   clear H Mc E6 U8 Me Lo Ln C;go_wp2_with (first
    | (((with_reducible refine ar 79 (.tmp 11) _ ?_);refine stD X11.out ?_;intro w8 U11 o);have D8:=hid (o.out.bx D7.out Lb);obtain⟨q0,q1,q2,q3,qf0,qf1,qf2,qf3,qlt⟩:=D8.out.c4;have D9:=hid (show Bx (w8.setCell ⟨b.heap.size,2,none⟩ (.int .i64 (l+m+q))) b.heap.size 79 #[.slice Ad n cd,.slice DAd 0 dcd,.int .i64 (l+m+q),.bool false] from D8.out.set_ 2 _))
    | ((with_reducible refine aN 79 (.tmp 8) ?_);refine ldD D9.out ?_))
   have Mi:w.heap.size<=b.heap.size:=by have:=M.out.size;omega
   have Lg:=hid ((o.out.below Ly.out (show w.heap.size<=P.heap.size by omega)).setCell (p:=⟨b.heap.size,2,none⟩) Mi (.int .i64 (l+m+q)));have Nb:P.heap.size<w8.heap.size:=U11.out.lt;have E:=o.out.2.2 P.heap.size (kqa _);have La:=hid ((Rd.below Mj.out (E.mono (by omega))).set_ (p:=⟨b.heap.size,2,none⟩) (kqa _) (.int .i64 (l+m+q)));have Lp:=hid ((Rd.below Mb.out (E.mono (by omega))).set_ (p:=⟨b.heap.size,2,none⟩) (kqa _) (.int .i64 (l+m+q)));have Lf:=ai Ms.out (o.out.below V.out (kqa _)) (kqa _);have Li:=hid (av Lf (p:=⟨b.heap.size,2,none⟩) (bH Lf O).symm (.int .i64 (l+m+q)));have E8:=hid ((o.out.bx E7.out Kw).far (p:=⟨b.heap.size,2,none⟩) Lj (.int .i64 (l+m+q)));have U12:=hid (U11.out.far (p:=⟨b.heap.size,2,none⟩) Lb.symm (.int .i64 (l+m+q)));obtain⟨W8,Kz⟩:∃W,w8.setCell ⟨b.heap.size,2,none⟩ (.int .i64 (l+m+q))=W:=⟨_,rfl⟩;have Nl:w8.heap.size=W8.heap.size:=by rw[<-Kz,kz6]
   rw[Kz] at Lg La Lp Li E8 U12 |-;clear Kz Lf E Ly Mj Mb Ms E7 U11 o D7 D8 D9 X11 V q0 q1 q2 q3 qf0 qf1 qf2 qf3 qlt;refine (u.out Ad cd DAd dcd W8 Mh (Rd.more Lp.out (by omega))).mono ?_;rintro e G ⟨⟨_,rfl,Az,cz2,DAz,dcz,rfl,hcz2,Mq,-⟩,J⟩;have Kg:=J.size;have Kl:=hid ((kqk G.heap.size G).alloc (kqa _) (.cells #[.slice none 0 0,.slice none 0 0,.int .i64 0,.bool false] 79));have Mf:=hid (Lg.out.trans ((J.trans (Kl.out.mono Kg)).mono Lg.out.size));have E9:=hid ((E8.out.up J (by omega)).alloc (.cells #[.slice none 0 0,.slice none 0 0,.int .i64 0,.bool false] 79));have Y9:=hid ((U12.out.up J (by omega)).alloc (.cells #[.slice none 0 0,.slice none 0 0,.int .i64 0,.bool false] 79));have Mz:=hid (show RdW (G.alloc (.cells #[.slice none 0 0,.slice none 0 0,.int .i64 0,.bool false] 79)) G.heap.size _ Z from ((Rd.more La.out (show b.heap.size<=W8.heap.size by omega)).up J Kg).alloc (kqa _) _);have Mn:=hid (show RdW (G.alloc (.cells #[.slice none 0 0,.slice none 0 0,.int .i64 0,.bool false] 79)) G.heap.size Ay yi from ((show RdW W8 W8.heap.size Ay yi from Rd.of_own Li.out).up J Kg).alloc (kqa _) _);have Md:=hid (show RdW (G.alloc (.cells #[.slice none 0 0,.slice none 0 0,.int .i64 0,.bool false] 79)) G.heap.size Az zi from (show RdW G G.heap.size Az zi from Rd.of_own Mq).alloc (kqa _) _)
   have X13:=hid (Bx.new G 79 #[.slice none 0 0,.slice none 0 0,.int .i64 0,.bool false]);have Mv:P.heap.size≠G.heap.size:=by omega
   have Kv:w4.heap.size≠G.heap.size:=by omega
   clear J Mq E8 U12 La Lp Li u;go_wp2_with (first
    | (((with_reducible refine ar 79 (.tmp 13) _ ?_);refine stD X13.out ?_;intro a U13 s);have Y10:=hid (s.out.bx Y9.out Mv);obtain⟨q0,q1,q2,q3,-,-,-,-,qlt⟩:=Y10.out.c4;obtain⟨r0,r1,r2,r3,-,-,-,-,rlt⟩:=U13.out.c4))
   have Ko:=hid (s.out.below Mf.out (show w.heap.size<=G.heap.size by omega));have E:=s.out.2.2 G.heap.size (kqa _);have Kc:G.heap.size<a.heap.size:=U13.out.lt;have Kk:=hid (show RdW a a.heap.size _ Z from Rd.more (Rd.below Mz.out E) (kxn Kc));have Kx:=hid (show RdW a a.heap.size Ay yi from Rd.more (Rd.below Mn.out E) (kxn Kc));have Kr:=hid (show RdW a a.heap.size Az zi from Rd.more (Rd.below Md.out E) (kxn Kc));have E10:=hid (s.out.bx E9.out Kv);obtain⟨Nh,Nc,Y⟩:yi.length=n/\zi.length=n/\Z.length=n:=⟨Ng.out,Nn.out,Nk.out⟩;obtain⟨bY,oY,rfl,Ni,Lq⟩:=RdW.all Kx.out (by omega);obtain⟨bX,oX,rfl,No,Lv⟩:=RdW.all Kr.out (by omega);obtain⟨bZ,oZ,Kf,Nf,Lu⟩:=RdW.all Kk.out (by omega);obtain⟨rfl,rfl⟩:gz=bZ/\0=oZ:=by injection Kf with Kf;injection Kf with h1 h2 h3;exact⟨h1,h2⟩
   have Ls:=hid (λk (hk:k<n) (h:k<32\/96<=k) W (hb:Below a.heap.size a W)=>(show ∃v:Nat,W.cell? ⟨bY,oY+k,none⟩=some (.int .u64 (v:Int))/\W.cell? ⟨bX,oX+k,none⟩=some (.int .u64 (v:Int))/\W.cell? ⟨gz,k,none⟩=some (.int .u64 (v:Int)) from by
    obtain⟨v,⟨h1,e1⟩,⟨h2,e2⟩,h3,e3⟩:=Lx.out k hk h;have c1:=Lq k h1;have c2:=Lv k h2;have c3:=Lu k h3;rw[e1] at c1;rw[e2] at c2;rw[e3,kxd] at c3;exact⟨v,(hb.cell (p:=⟨bY,oY+k,none⟩) Ni).trans c1,(hb.cell (p:=⟨bX,oX+k,none⟩) No).trans c2,(hb.cell (p:=⟨gz,k,none⟩) Nf).trans c3⟩))
   have Na:=hid (λW (hb:Below a.heap.size a W)=>And.intro ((hb.cell (p:=⟨P.heap.size,0,none⟩) qlt).trans q0) ((hb.cell (p:=⟨G.heap.size,0,none⟩) rlt).trans r0));clear Nh Nc Y Lq Lv Lu Kf q0 q1 q2 q3 r0 r1 r2 r3 Kx Kr Kk Mz Mn Md Lx E s E9 Y9 X13 Y10 U13 Mf Kl Nl Nb Kg Mv Kv Lb Kw Lj Ml O Ll Nj Mi qlt rlt;go_loopw [15] (λi wr=>∃k:Nat,k<=n/\i=.int .i64 k/\Hid (Below a.heap.size a wr)) (λi _=>n-(intOf i).toNat)
   case atStart=>exact⟨0,kqy _,rfl,hid (kqk _ _)⟩
   obtain⟨k,hk,rfl,K⟩:=hrel;have hk0:(0:Int)<=(k:Int):=by omega
   by_cases Ke:k<n
   .have hki:(k:Int)<(n:Int):=by omega
    obtain⟨y0,x0⟩:=Na.out wr K.out;by_cases Kh:k<32
    .obtain ⟨v,c1,c2,c3⟩:=Ls.out k Ke (.inl Kh) wr K.out;have d1:decide ((k:Int)<32)=true:=by rw[kqn];omega
     have hq:((v:Int) != (v:Int))=false:=by rw[kqr]
     clear Kh;go_wp2_with fail;go_quiet (fail);go_wp2;go_roundw
     case rel=>exact⟨k+1,by omega,by go_num,by first | exact K | exact hid (aW K.out _) | exact hid K.out.drew⟩
     case measure=>simp[intOf];omega
    have d1:decide ((k:Int)<32)=false:=by rw[kqc];omega
    by_cases Lh:96<=k
    .obtain ⟨v,c1,c2,c3⟩:=Ls.out k Ke (.inr Lh) wr K.out;have d2:decide ((96:Int)<=(k:Int))=true:=by rw[kqn];omega
     have hq:((v:Int) != (v:Int))=false:=by rw[kqr]
     clear Kh Lh;go_wp2_with fail;go_quiet (fail);go_wp2;go_roundw
     case rel=>exact⟨k+1,by omega,by go_num,by first | exact K | exact hid (aW K.out _) | exact hid K.out.drew⟩
     case measure=>simp[intOf];omega
    have d2:decide ((96:Int)<=(k:Int))=false:=by rw[kqc];omega
    clear Kh Lh;go_wp2_with fail;go_quiet (fail);go_wp2;go_roundw
    case rel=>exact⟨k+1,by omega,by go_num,by first | exact K | exact hid (aW K.out _) | exact hid K.out.drew⟩
    case measure=>simp[intOf];omega
   have Nm:k=n:=by omega
   have hend:decide ((k:Int)<(n:Int))=false:=by rw[kqc];omega
   have hendn:decide (k<n)=false:=by rw[kqc];exact Ke
   clear Ke hk Nm;go_wp2_with fail;refine (Mx.out wr).mono ?_;rintro e w11 ⟨rfl,Ky⟩;obtain⟨g,Lw⟩:∃g:Int,20*((n:Int)-128)+200=g:=⟨_,rfl⟩;rw[Lw];have hbb0:0<=g/\g<=1000000:=by omega
   have l1:l<=g+5:=by omega
   have l2:m<=g+4:=by omega
   have l3:q<=g+4:=by omega
   have Ka:=K.out.trans (Ky.mono K.out.size);have X16:=hid (Bx.new w11 61 #[.int .i64 g,.int .i64 g,.int .i64 g]);have Kn:=hid (Ka.alloc Ka.size (.cells #[.int .i64 g,.int .i64 g,.int .i64 g] 61));clear Lw Ky Ka le1 le2 le3;go_wp2_with fail;refine (zC _).mono ?_;rintro e w12 ⟨⟨A1,c1,rfl,Ma⟩,Kd⟩;have X17:=hid (X16.out.up Kd X16.out.lt);have Ku:=hid (Kn.out.trans (Kd.mono Kn.out.size));have Mo:=hid Ma;clear Ma Kd X16;go_wp2_with fail;refine (Mr.out _ _ w12 Mo.out).mono ?_;rintro e w13 ⟨rfl,U⟩;have X18:=hid (X17.out.up U X17.out.lt);have T:=Ku.out.trans (U.mono Ku.out.size);have X19:=hid (X18.out.alloc (.cells #[.int .i64 5,.int .i64 4,.int .i64 4] 61));have X20:=hid (Bx.new w13 61 #[.int .i64 5,.int .i64 4,.int .i64 4]);have Kq:=hid (T.alloc T.size (.cells #[.int .i64 5,.int .i64 4,.int .i64 4] 61));obtain⟨a0,a1,a2,-,-,-,alt⟩:=X19.out.c3;obtain⟨b0,b1,b2,-,-,-,blt⟩:=X20.out.c3;clear U T X17 X18 Mo;go_wp2_with fail;refine (Hc g g g 5 4 4 _ ⟨by omega,by omega,by omega,by omega,by omega,by omega⟩).mono ?_;rintro e w14 ⟨rfl,Km⟩;have Eq:=Kq.out.trans (Km.mono Kq.out.size);have Kt:=hid (Eq.alloc Eq.size (.cells #[.int .i64 (g+5),.int .i64 (g+4),.int .i64 (g+4)] 61));have E14:=hid (E10.out.up Kt.out E10.out.lt)
   have X21:=hid (Bx.new w14 61 #[.int .i64 (g+5),.int .i64 (g+4),.int .i64 (g+4)]);obtain⟨e0,e1,e2,-,-,-,elt⟩:=E14.out.c3;obtain⟨f0,f1,f2,-,-,-,flt⟩:=X21.out.c3;have g1:decide (l<=g+5)=true:=by rw[kqn];exact l1
   have g2:decide (m<=g+4)=true:=by rw[kqn];exact l2
   have g3:decide (q<=g+4)=true:=by rw[kqn];exact l3
   clear Km Eq X19 X20 a0 a1 a2 alt b0 b1 b2 blt;go_wp2;go_ret;exact⟨rfl,Ko.out.trans (Kt.out.mono Ko.out.size)⟩
  obtain⟨r,Mp⟩:=xq (bN ws);rw[Mp] at Kj h0;have e1:(r != 0)=true:=by rw[kqv];exact h0
  clear hr ho h0 Mp hg hn;go_enter func10,ntmps10;go_wp2_with fail;refine (oq w).mono ?_;rintro e w1 ⟨rfl,F⟩;have j:=hid F;clear F;go_wp2_with fail;refine (HG.out _).mono ?_;rintro e w1' ⟨rfl,rfl⟩;go_wp2_with fail;refine (Kj.out _ (HR.out.up j.out j.out.size)).mono ?_;rintro e w2 ⟨rfl,S⟩;have N:=hid (j.out.trans (S.mono j.out.size));clear S;go_wp2;go_ret;exact⟨rfl,N.out⟩
 rw[hg] at HG;clear hr ho hg hn;go_enter func10,ntmps10;go_wp2_with fail;refine (oq w).mono ?_;rintro e w1 ⟨rfl,F⟩;have j:=hid F;clear F;go_wp2_with fail;refine (HG.out _).mono ?_;rintro e w1' ⟨rfl,rfl⟩;go_wp2;go_ret;exact⟨rfl,j.out⟩
theorem lP(w:World)(A:Option Addr)(ws:List Nat)(c:Nat)(hn:ws.length<=maxLen)(hc:ws.length<=c)(hr:RdW w w.heap.size A ws)(ho:∀x∈ws,x<18446744073709551616):
 Calls prog 10 #[.slice A ws.length c] w λe w'=>e=.returned (.bool true)/\Below w.heap.size w w':=kG A ws c ws.length w rfl (by unfold maxLen at hn;omega) hc hr ho
end Go.Proofs.YtpcajamacpbjcaaGreat
