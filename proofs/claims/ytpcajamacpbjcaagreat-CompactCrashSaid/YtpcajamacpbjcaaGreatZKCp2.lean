/- Texts laid together: LyQ CpE CpG CpH CpI. -/
import Derived.Test.YtpcajamacpbjcaaGreatZKR19
import Derived.Test.YtpcajamacpbjcaaGreatZKCp1
set_option maxHeartbeats 16000000
set_option linter.all false
namespace Go.Proofs.YtpcajamacpbjcaaGreat
open Go.RowKit
variable {ws:List Nat}{a i t:Nat}
structure Lay (ws:List Nat) (t:Nat):Prop where
 size:aj (ws.length:Int)=true
 ty:tyN ws=some t
 z16:∀i,16<=i->i<32->wd ws i=0
 tys:gK ws t=true
 sls:slsOk ws=true
 hp:ah ws=0
 adj:jX (ag ws)=true
 wr:∀r,7<=r->r<12->∀b∈aI (ag ws),wrK ws (gn ws t 8) (aI (ag ws)) r b=false
 sl:∀i,i<16->jO (aI (ag ws)) (slAt ws i)=true
theorem qm(h:tyN ws=some t):aj (ws.length:Int)=true:=by
 cases a:aj (ws.length:Int) with
 | true=>rfl
 | false=>rw[(tu a).1] at h;cases h
theorem l6(ws:List Nat)(T:List (List Nat))(O:List Bk)(r a z ty:Nat)(k:Int)(mk:Bool)(nx:Nat):wrK ws T O r ⟨(a:Int),(z:Int),k,(ty:Int),mk,nx⟩=wrB ws T O a z ty mk nx r:=by unfold wrK;simp only[kqj]
theorem ye(ht:t<=8)(hi:i<t):(gn ws t 8)[i]? = some (a8 (wd ws (96+2*i)) (wd ws (96+2*i+1))):=by unfold gn;rw[kxc ht,kxl,kqk (by rw[kkg];exact hi)];simp
theorem lay_hp{l:List Bk}(ht:tyN ws=some t)(hl:blocks ws 128=some l)(hty:gK ws t=true)(h8:∀b∈aI l,wrK ws (gn ws t 8) (aI l) 8 b=false):ah ws=0/\ag ws=l:=by
 refine fS (qm ht) hl ?_;rw[kzu];intro b m;by_cases j:b.kind=1
 .have g:b∈aI l:=kzo.2 ⟨m,by rw[kqw];exact j⟩;have h:=h8 b g;obtain⟨a,z,f,nx,mk,e,a1,a2,a3,a4,a5⟩:=gm hl g;rw[i9 j];rw[e] at h;rw[l6] at h;have h:(!decide (f<(gn ws t 8).length)||aY (((gn ws t 8)[f]?).getD []).length != z)=false:=h;rw[kzl] at h;have i:=uE ht;have d:f<t:=by have:=h.1;rw[uu] at this;simp at this;omega
  rw[ye i d,kq9] at h;have c:=(js ws t).1 hty f (by omega);unfold Ct at c;rw[if_pos d] at c;have k:=h.2;rw[kqq] at k;have n:tyA b=96+2*f:=by rw[e];unfold tyA;simp
  have o:b.size=(z:Int):=by rw[e]
  rw[n,c,o,<-k];simp
 rw[ey j]
theorem nu(h:lay ws=true):∃t,Lay ws t:=by
 cases a:tyN ws with
 | none=>rw[oK (.inl a)] at h;cases h
 | some t =>
  cases c:blocks ws 128 with
  | none=>rw[oK (.inr c)] at h;cases h
  | some l =>
   obtain⟨j,f,e,r,n,g,p⟩:=(nm a c).1 h;obtain⟨o,d⟩:=lay_hp a c e (λb m=>g 8 (by omega) (by omega) b m);refine⟨t,qm a,a,λi hi1 hi2=>?_,e,r,o,by rw[d];exact n,by rw[d];exact g,λi k=>by
    rw[d];exact p _ (kzw.2 ⟨i,kzh.2 k,rfl⟩)⟩
   rw[jx] at j f;rcases kq6 i 24 with q|q
   .have:=j (i-16) (by omega);rwa [show 16+(i-16)=i by omega] at this
   have:=f (i-24) (by omega);rwa [show 24+(i-24)=i by omega] at this
section
variable {ws:List Nat} {t:Nat}
theorem Lay.lay(h:Lay ws t):lay ws=true:=by have c:=(gj h.hp).2.2.2;rw[nm h.ty c];refine⟨(jx _ _).2 λi a=>h.z16 _ (by omega) (by omega),(jx _ _).2 λi a=>h.z16 _ (by omega) (by omega),h.tys,h.sls,h.adj,h.wr,λs b=>?_⟩;obtain⟨i,a,rfl⟩:=kzw.1 b;exact h.sl i (kzh.1 a)
theorem tY(h0:ah ws=0){v:Nat}:mg (aI (ag ws)) v=true↔fQ ws v:=by
 unfold mg;rw[kx1];constructor
 .rintro ⟨b,h,e⟩;rw[kqw] at e;obtain⟨j,d⟩:=kzo.1 h;rw[kqw] at d;obtain⟨k,c,rfl⟩:=kqz j;obtain⟨a,g,i⟩:=ol h0 c d;rw[g,ae] at e;obtain rfl:a=v:=by omega
  exact i
 intro f;obtain⟨k,c,e,-⟩:=f.2.2.2.2.2.2;exact⟨bkAt ws v,kzo.2 ⟨by rw[<-e];exact kqp c,by rw[kqw];exact f.2.2.2.2.1⟩,by rw[kqw,ae]⟩
theorem FM(ho:fQ ws a):bkAt ws a∈aI (ag ws):=by obtain⟨k,b,e,-⟩:=ho.2.2.2.2.2.2;exact kzo.2 ⟨by rw[<-e];exact kqp b,by rw[kqw];exact ho.2.2.2.2.1⟩
theorem Lay.obj(h:Lay ws t)(ho:fQ ws a):(ar (wd ws a)).mark=false/\wd ws (a+1)=0/\(ar (wd ws a)).typ.toNat<t/\(gn ws t 8)[(ar (wd ws a)).typ.toNat]? = some (flds ws a)/\szAt ws a=aY (flds ws a).length/\(∀r,7<=r->r<12->wrB ws (gn ws t 8) (aI (ag ws)) a (szAt ws a) (ar (wd ws a)).typ.toNat (ar (wd ws a)).mark (wd ws (a+1)) r=false):=by
 have k:=FM ho;have l:bkAt ws a=⟨(a:Int),((szAt ws a:Nat):Int),(ar (wd ws a)).kind,(((ar (wd ws a)).typ.toNat:Nat):Int),(ar (wd ws a)).mark,wd ws (a+1)⟩:=by
  have i:(ar (wd ws a)).typ=(((ar (wd ws a)).typ.toNat:Nat):Int):=by unfold ar;dsimp only;omega
  rw[<-i];rfl
 have b:∀r,7<=r->r<12->wrB ws (gn ws t 8) (aI (ag ws)) a (szAt ws a) (ar (wd ws a)).typ.toNat (ar (wd ws a)).mark (wd ws (a+1)) r=false:=by intro r m j;have:=h.wr r m j _ k;rw[l,l6] at this;exact this
 have g:((ar (wd ws a)).mark||decide (0<wd ws (a+1)))=false:=b 7 (by omega) (by omega);rw[kzl,kqh] at g;have d:(!decide ((ar (wd ws a)).typ.toNat<(gn ws t 8).length)||aY (((gn ws t 8)[(ar (wd ws a)).typ.toNat]?).getD []).length != szAt ws a)=false:=b 8 (by omega) (by omega);rw[kzl,kqq] at d;have e:=uE h.ty;have c:(ar (wd ws a)).typ.toNat<t:=by have:=d.1;rw[uu] at this;simp at this;omega
 have f:=ye (ws:=ws) e c;rw[f,kq9] at d;exact⟨g.1,by omega,c,f,d.2.symm,b⟩
theorem Lay.ref(h:Lay ws t)(ho:fQ ws a)(hi:(flds ws a)[i]? = some 3)(hv:wd ws (a+2+i)≠0):fQ ws (wd ws (a+2+i)):=by
 obtain⟨-,-,-,f,-,e⟩:=h.obj ho;have b:=e 11 (by omega) (by omega);have b:((List.range (((gn ws t 8)[(ar (wd ws a)).typ.toNat]?).getD []).length).any λi=>wrF ws (((gn ws t 8)[(ar (wd ws a)).typ.toNat]?).getD []) (aI (ag ws)) a 11 i)=false:=b;rw[f,kq9,kj5] at b;have c:=(kza.1 hi).1;have:=b i (kzh.2 c);unfold wrF at this;rw[if_neg (by decide),hi] at this;simp only[beq_self_eq_true,kzr,Bool.not_eq_true,kk5,kqh,kkt] at this;rw[<-tY h.hp];rcases this with d|d
 .omega
 exact d
theorem Lay.slot(h:Lay ws t)(hi:i<16)(hu:(slAt ws i).used=true):fQ ws (slAt ws i).at_.toNat:=by
 have:=h.sl i hi;unfold jO at this;rw[hu] at this;rw[<-tY h.hp]
 simpa using this
theorem Lay.rch(h:Lay ws t)(ha:Rch ws a):fQ ws a:=by
 induction ha with
 | slot i hi hu=>exact h.slot hi hu
 | ref _ i _ _ hf hv ih =>have b:=h.ref ih hf hv;have hlt:=b.2.2.1;have hb:=(aa _).1 h.size;rw[kxc (by omega)];exact b
theorem Lay.rc(h:Lay ws t):aA ws=0:=Ap h.hp h.sls λ_ a=>(obj_tb h.hp (h.rch a)).2
end
def gG (ws:List Nat):List Nat:=am ws [⟨16,1⟩]
noncomputable def cpZ (ws:List Nat):List Nat:=vE (gG ws)
noncomputable def cpT (ws:List Nat):Nat:=(aK (cpL ws) 128).toNat
theorem jq(ws:List Nat):(gG ws).length=ws.length:=ax _ _
theorem l9(h:i≠16):wd (gG ws) i=wd ws i:=aP _ _ _ λe a=>by rw[kq0] at a;subst a;dsimp only;omega
theorem pY(ho:∀v∈ws,v<18446744073709551616):∀v∈gG ws,v<18446744073709551616:=qc _ _ ho λe a=>by rw[kq0] at a;subst a;dsimp only;omega
theorem Eb(ws:List Nat):NxL ws (gG ws):=qg λe a=>by rw[kq0] at a;subst a;exact .inl (by dsimp only;omega)
theorem x1_hp(h0:ah ws=0):ah (gG ws)=0/\ag (gG ws)=ag ws:=by obtain⟨e,d⟩:=((Eb ws).ev h0).heap h0;refine⟨e,?_⟩;rw[d,kz4 (g:=id) (λb c=>?_),List.map_id];obtain⟨a,rfl,a1,-⟩:=(cg h0).1 b c;show nxB (gG ws) (bkAt ws a)=bkAt ws a;unfold nxB;refine sh ?_;rw[ae,kqj,l9 (by omega)];rfl
theorem FQ(h0:ah ws=0):seenL (gG ws)=seenL ws:=by unfold seenL;rw[jq];refine kz4 λa _=>?_;exact decide_eq_decide.2 ((Eb ws).rch h0 a)
theorem x1_cp(h0:ah ws=0):cpL (gG ws)=cpL ws/\cpM (gG ws)=cpM ws:=by
 have e:cpL (gG ws)=cpL ws:=by unfold cpL;rw[(x1_hp h0).2];refine kz4 λb _=>?_;unfold mkS eO;rw[FQ h0]
 exact⟨e,by unfold cpM;rw[e]⟩
theorem Lay.first(h:Lay ws t):wd (gG ws) 16=1/\aw (gG ws)=0/\aA (gG ws)=0/\dX (gG ws)=dX ws:=by
 have hb:=(aa _).1 h.size;have b:wd (gG ws) 16=1:=jU (j:=16) (l:=[]) (by omega) (λe i=>by cases i);obtain⟨d,g,f⟩:=(Eb ws).same h.hp;have a:=h.z16;have c:cA (gG ws)=0:=by
  refine vu (by rw[jq];exact h.size) ?_ ?_
  .rw[bt,jq,b,l9 (by omega),l9 (by omega),l9 (by omega),l9 (by omega),l9 (by omega),l9 (by omega),l9 (by omega),a 17 (by omega) (by omega),a 18 (by omega) (by omega),a 19 (by omega) (by omega),a 20 (by omega) (by omega),a 21 (by omega) (by omega),a 22 (by omega) (by omega),a 23 (by omega) (by omega)];omega
  rw[b,l9 (by omega),l9 (by omega),a 17 (by omega) (by omega),a 18 (by omega) (by omega)];rfl
 exact⟨b,sx c (by omega) (by omega) d,by rw[g];exact h.rc,f⟩
section
variable {ws:List Nat} {t:Nat}
theorem Lay.run(h:Lay ws t)(ho:∀v∈ws,v<18446744073709551616):CpF (gG ws):=by obtain⟨a,b,c,-⟩:=h.first;exact cpF (pY ho) a b c
theorem Lay.desc(h:Lay ws t)(ho:∀v∈ws,v<18446744073709551616):CpD ws (cpZ ws) (cpM ws) (cpT ws)/\aK (cpL ws) 128=(cpT ws:Int):=by
 have o:=h.hp;obtain⟨p16,-,l,-⟩:=h.first;obtain⟨D,E⟩:=(h.run ho).desc l;obtain⟨u,F⟩:=x1_cp o;rw[u,F] at D;rw[u] at E
 change CpD (gG ws) (cpZ ws) (cpM ws) (cpT ws) at D
 refine⟨?_,E⟩;have b:∀ {i:Nat},17<=i->wd (gG ws) i=wd ws i:=λh=>l9 (by omega);have y:=(Eb ws).rch o;have k:∀i,i<16->slAt (gG ws) i=slAt ws i:=λi a=>by unfold slAt;rw[b (by omega)]
 have f:∀ {m:Nat},128<=m->szAt (gG ws) m=szAt ws m:=λd=>by unfold szAt;rw[b (by omega)]
 have j:∀ {m:Nat},128<=m->flds (gG ws) m=flds ws m:=λd=>by unfold flds;rw[b (by omega),b (by omega),b (by omega)]
 refine⟨D.len.trans (jq ws),λi a=>(D.low i a).trans (l9 (by omega)),D.line,λi a=>?_,λp hp=>?_,by rw[<-jq ws];exact D.to,λn=>?_,λi a H d=>?_⟩
 .rw[D.sl i a];unfold nwS;rw[k i a]
 .obtain ⟨m,C,e,G,A,x,z,w,I,s,q⟩:=D.obj p hp;have d:=(y m).1 G;have c:=(h.rch d).1;rw[f c] at x z q;rw[b (by omega)] at w;rw[j c] at s q;refine⟨m,C,e,d,A,x,z,w,I,λi a=>?_,λi B J=>?_⟩
  .have:=s i a;rwa [b (by omega)] at this
  have:=q i B J;rwa [b (by omega)] at this
 .have:=D.free (by rw[jq];exact n);rwa [jq] at this
 rw[D.rest i a (by rw[(x1_hp o).2];exact H) (λm r=>?_),b (by have:=D.to.1;omega)];have g:=(y m).1 r;rw[f (h.rch g).1];exact d m g
end
section
variable {w z:List Nat} {t:Nat}
structure CpMv (w:List Nat):Prop where
 fst:(cpM w).map Prod.fst=dX w
 inc:(cpM w).Pairwise (λp q=>p.1<q.1)
 snd:(cpM w).Pairwise (λp q=>p.2<q.2)
 dn:∀p∈cpM w,128<=p.2/\p.2<=p.1
end
section
variable {w z:List Nat} {t:Nat}
structure CpR (w z:List Nat) (t:Nat):Prop where
 L:Lay w t
 D:CpD w z (cpM w) (cpT w)
 E:aK (cpL w) 128=(cpT w:Int)
 V:CpMv w
end
theorem Lay.lt{w:List Nat}(h:Lay w t)(ho:∀v∈w,v<18446744073709551616):∀v∈cpZ w,v<18446744073709551616:=by have F:=h.run ho;unfold cpZ vE;exact qc _ _ F.o4 (pH F.en).1.val
section
variable {w z:List Nat} {t:Nat}
end
end Go.Proofs.YtpcajamacpbjcaaGreat
