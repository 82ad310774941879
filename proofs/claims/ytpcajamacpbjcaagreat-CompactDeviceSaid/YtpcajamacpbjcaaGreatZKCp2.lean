/- Texts laid together: LyQ CpE CpG CpH CpI. -/
import Derived.Test.YtpcajamacpbjcaaGreatZKR19
import Derived.Test.YtpcajamacpbjcaaGreatZKCp1
set_option maxHeartbeats 16000000
set_option linter.all false
namespace Go.Proofs.YtpcajamacpbjcaaGreat
open Go.RowKit
variable {ws:List Nat}{a i t:Nat}
structure Lay (ws:List Nat) (t:Nat):Prop where
 size:aj (ws.length:Int)=true
 ty:tyN ws=some t
 z16:∀i,16<=i->i<32->wd ws i=0
 tys:ib ws t=true
 sls:slsOk ws=true
 hp:ah ws=0
 adj:kk (af ws)=true
 wr:∀r,7<=r->r<12->∀b∈aM (af ws),wrK ws (gJ ws t 8) (aM (af ws)) r b=false
 sl:∀i,i<16->jV (aM (af ws)) (slAt ws i)=true
theorem qD(h:tyN ws=some t):aj (ws.length:Int)=true:=by
 cases a:aj (ws.length:Int) with
 | true=>rfl
 | false=>rw[(uh a).1] at h;cases h
theorem mp(ws:List Nat)(T:List (List Nat))(O:List Bk)(r a z ty:Nat)(k:Int)(mk:Bool)(nx:Nat):wrK ws T O r ⟨(a:Int),(z:Int),k,(ty:Int),mk,nx⟩=wrB ws T O a z ty mk nx r:=by unfold wrK;simp only[kqj]
theorem BT(ht:t<=8)(hi:i<t):(gJ ws t 8)[i]? = some (bp (wd ws (96+2*i)) (wd ws (96+2*i+1))):=by unfold gJ;rw[kxc ht,kxf,kql (by rw[kkm];exact hi)];simp
theorem lay_hp{l:List Bk}(ht:tyN ws=some t)(hl:blocks ws 128=some l)(hty:ib ws t=true)(h8:∀b∈aM l,wrK ws (gJ ws t 8) (aM l) 8 b=false):ah ws=0/\af ws=l:=by
 refine fT (qD ht) hl ?_;rw[kzu];intro b n;by_cases i:b.kind=1
 .have f:b∈aM l:=kzp.2 ⟨n,by rw[kqw];exact i⟩;have h:=h8 b f;obtain⟨a,z,d,nx,mk,e,a1,a2,a3,a4,a5⟩:=gH hl f;rw[jC i];rw[e] at h;rw[mp] at h;have h:(!decide (d<(gJ ws t 8).length)||bi (((gJ ws t 8)[d]?).getD []).length != z)=false:=h;rw[kzn] at h;have j:=uK ht;have g:d<t:=by have:=h.1;rw[vT] at this;simp at this;omega
  rw[BT j g,kq8] at h;have c:=(jz ws t).1 hty d (by omega);unfold Dq at c;rw[if_pos g] at c;have k:=h.2;rw[kqr] at k;have m:tyA b=96+2*d:=by rw[e];unfold tyA;simp
  have o:b.size=(z:Int):=by rw[e]
  rw[m,c,o,<-k];simp
 rw[eC i]
theorem mm(h:lay ws=true):∃t,Lay ws t:=by
 cases a:tyN ws with
 | none=>rw[pv (.inl a)] at h;cases h
 | some t =>
  cases c:blocks ws 128 with
  | none=>rw[pv (.inr c)] at h;cases h
  | some l =>
   obtain⟨f,j,e,k,p,g,o⟩:=(n8 a c).1 h;obtain⟨r,d⟩:=lay_hp a c e (λb n=>g 8 (by omega) (by omega) b n);refine⟨t,qD a,a,λi hi1 hi2=>?_,e,k,r,by rw[d];exact p,by rw[d];exact g,λi m=>by
    rw[d];exact o _ (kzr.2 ⟨i,kzj.2 m,rfl⟩)⟩
   rw[jJ] at f j;rcases kq6 i 24 with q|q
   .have:=f (i-16) (by omega);rwa [show 16+(i-16)=i by omega] at this
   have:=j (i-24) (by omega);rwa [show 24+(i-24)=i by omega] at this
section
variable {ws:List Nat} {t:Nat}
theorem Lay.lay(h:Lay ws t):lay ws=true:=by have b:=(gj h.hp).2.2.2;rw[n8 h.ty b];refine⟨(jJ _ _).2 λi a=>h.z16 _ (by omega) (by omega),(jJ _ _).2 λi a=>h.z16 _ (by omega) (by omega),h.tys,h.sls,h.adj,h.wr,λs c=>?_⟩;obtain⟨i,a,rfl⟩:=kzr.1 c;exact h.sl i (kzj.1 a)
theorem uJ(h0:ah ws=0){v:Nat}:my (aM (af ws)) v=true↔fW ws v:=by
 unfold my;rw[kx3];constructor
 .rintro ⟨b,g,e⟩;rw[kqw] at e;obtain⟨i,f⟩:=kzp.1 g;rw[kqw] at f;obtain⟨k,c,rfl⟩:=kqz i;obtain⟨a,j,h⟩:=pL h0 c f;rw[j,ab] at e;obtain rfl:a=v:=by omega
  exact h
 intro d;obtain⟨k,c,e,-⟩:=d.2.2.2.2.2.2;exact⟨bkAt ws v,kzp.2 ⟨by rw[<-e];exact kqq c,by rw[kqw];exact d.2.2.2.2.1⟩,by rw[kqw,ab]⟩
theorem ID(ho:fW ws a):bkAt ws a∈aM (af ws):=by obtain⟨k,b,e,-⟩:=ho.2.2.2.2.2.2;exact kzp.2 ⟨by rw[<-e];exact kqq b,by rw[kqw];exact ho.2.2.2.2.1⟩
theorem Lay.obj(h:Lay ws t)(ho:fW ws a):(aq (wd ws a)).mark=false/\wd ws (a+1)=0/\(aq (wd ws a)).typ.toNat<t/\(gJ ws t 8)[(aq (wd ws a)).typ.toNat]? = some (flds ws a)/\szAt ws a=bi (flds ws a).length/\(∀r,7<=r->r<12->wrB ws (gJ ws t 8) (aM (af ws)) a (szAt ws a) (aq (wd ws a)).typ.toNat (aq (wd ws a)).mark (wd ws (a+1)) r=false):=by
 have j:=ID ho;have i:bkAt ws a=⟨(a:Int),((szAt ws a:Nat):Int),(aq (wd ws a)).kind,(((aq (wd ws a)).typ.toNat:Nat):Int),(aq (wd ws a)).mark,wd ws (a+1)⟩:=by
  have m:(aq (wd ws a)).typ=(((aq (wd ws a)).typ.toNat:Nat):Int):=by unfold aq;dsimp only;omega
  rw[<-m];rfl
 have b:∀r,7<=r->r<12->wrB ws (gJ ws t 8) (aM (af ws)) a (szAt ws a) (aq (wd ws a)).typ.toNat (aq (wd ws a)).mark (wd ws (a+1)) r=false:=by intro r l k;have:=h.wr r l k _ j;rw[i,mp] at this;exact this
 have f:((aq (wd ws a)).mark||decide (0<wd ws (a+1)))=false:=b 7 (by omega) (by omega);rw[kzn,kqc] at f;have d:(!decide ((aq (wd ws a)).typ.toNat<(gJ ws t 8).length)||bi (((gJ ws t 8)[(aq (wd ws a)).typ.toNat]?).getD []).length != szAt ws a)=false:=b 8 (by omega) (by omega);rw[kzn,kqr] at d;have e:=uK h.ty;have c:(aq (wd ws a)).typ.toNat<t:=by have:=d.1;rw[vT] at this;simp at this;omega
 have g:=BT (ws:=ws) e c;rw[g,kq8] at d;exact⟨f.1,by omega,c,g,d.2.symm,b⟩
theorem Lay.ref(h:Lay ws t)(ho:fW ws a)(hi:(flds ws a)[i]? = some 3)(hv:wd ws (a+2+i)≠0):fW ws (wd ws (a+2+i)):=by
 obtain⟨-,-,-,f,-,e⟩:=h.obj ho;have b:=e 11 (by omega) (by omega);have b:((List.range (((gJ ws t 8)[(aq (wd ws a)).typ.toNat]?).getD []).length).any λi=>wrF ws (((gJ ws t 8)[(aq (wd ws a)).typ.toNat]?).getD []) (aM (af ws)) a 11 i)=false:=b;rw[f,kq8,kj5] at b;have c:=(kzb.1 hi).1;have:=b i (kzj.2 c);unfold wrF at this;rw[if_neg (by decide),hi] at this;simp only[beq_self_eq_true,kzq,Bool.not_eq_true,kki,kqc,kk2] at this;rw[<-uJ h.hp];rcases this with d|d
 .omega
 exact d
theorem Lay.slot(h:Lay ws t)(hi:i<16)(hu:(slAt ws i).used=true):fW ws (slAt ws i).at_.toNat:=by
 have:=h.sl i hi;unfold jV at this;rw[hu] at this;rw[<-uJ h.hp]
 simpa using this
theorem Lay.rch(h:Lay ws t)(ha:Rch ws a):fW ws a:=by
 induction ha with
 | slot i hi hu=>exact h.slot hi hu
 | ref _ i _ _ hf hv ih =>have b:=h.ref ih hf hv;have hlt:=b.2.2.1;have hb:=(aa _).1 h.size;rw[kxc (by omega)];exact b
theorem Lay.rc(h:Lay ws t):aC ws=0:=Bc h.hp h.sls λ_ a=>(obj_tb h.hp (h.rch a)).2
end
def gA (ws:List Nat):List Nat:=ak ws [⟨16,1⟩]
noncomputable def cpZ (ws:List Nat):List Nat:=vE (gA ws)
noncomputable def cpT (ws:List Nat):Nat:=(aP (cpL ws) 128).toNat
theorem gR(ws:List Nat):(gA ws).length=ws.length:=ax _ _
theorem mB(h:i≠16):wd (gA ws) i=wd ws i:=aU _ _ _ λe a=>by rw[kq1] at a;subst a;dsimp only;omega
theorem oI(ho:∀v∈ws,v<18446744073709551616):∀v∈gA ws,v<18446744073709551616:=tT _ _ ho λe a=>by rw[kq1] at a;subst a;dsimp only;omega
theorem ET(ws:List Nat):NxL ws (gA ws):=pT λe a=>by rw[kq1] at a;subst a;exact .inl (by dsimp only;omega)
theorem x1_hp(h0:ah ws=0):ah (gA ws)=0/\af (gA ws)=af ws:=by obtain⟨d,e⟩:=((ET ws).ev h0).heap h0;refine⟨d,?_⟩;rw[e,kz2 (g:=id) (λb c=>?_),List.map_id];obtain⟨a,rfl,a1,-⟩:=(ch h0).1 b c;show nxB (gA ws) (bkAt ws a)=bkAt ws a;unfold nxB;refine tM ?_;rw[ab,kqj,mB (by omega)];rfl
theorem IT(h0:ah ws=0):seenL (gA ws)=seenL ws:=by unfold seenL;rw[gR];refine kz2 λa _=>?_;exact decide_eq_decide.2 ((ET ws).rch h0 a)
theorem x1_cp(h0:ah ws=0):cpL (gA ws)=cpL ws/\cpM (gA ws)=cpM ws:=by
 have e:cpL (gA ws)=cpL ws:=by unfold cpL;rw[(x1_hp h0).2];refine kz2 λb _=>?_;unfold mkS ew;rw[IT h0]
 exact⟨e,by unfold cpM;rw[e]⟩
theorem Lay.first(h:Lay ws t):wd (gA ws) 16=1/\az (gA ws)=0/\aC (gA ws)=0/\eh (gA ws)=eh ws:=by
 have hb:=(aa _).1 h.size;have b:wd (gA ws) 16=1:=kq (j:=16) (l:=[]) (by omega) (λe f=>by cases f);obtain⟨d,g,i⟩:=(ET ws).same h.hp;have a:=h.z16;have c:cK (gA ws)=0:=by
  refine CB (by rw[gR];exact h.size) ?_ ?_
  .rw[bo,gR,b,mB (by omega),mB (by omega),mB (by omega),mB (by omega),mB (by omega),mB (by omega),mB (by omega),a 17 (by omega) (by omega),a 18 (by omega) (by omega),a 19 (by omega) (by omega),a 20 (by omega) (by omega),a 21 (by omega) (by omega),a 22 (by omega) (by omega),a 23 (by omega) (by omega)];omega
  rw[b,mB (by omega),mB (by omega),a 17 (by omega) (by omega),a 18 (by omega) (by omega)];rfl
 exact⟨b,xe c (by omega) (by omega) d,by rw[g];exact h.rc,i⟩
section
variable {ws:List Nat} {t:Nat}
theorem Lay.run(h:Lay ws t)(ho:∀v∈ws,v<18446744073709551616):CpF (gA ws):=by obtain⟨a,b,c,-⟩:=h.first;exact cpF (oI ho) a b c
theorem Lay.desc(h:Lay ws t)(ho:∀v∈ws,v<18446744073709551616):CpD ws (cpZ ws) (cpM ws) (cpT ws)/\aP (cpL ws) 128=(cpT ws:Int):=by
 have n:=h.hp;obtain⟨p16,-,l,-⟩:=h.first;obtain⟨D,E⟩:=(h.run ho).desc l;obtain⟨y,A⟩:=x1_cp n;rw[y,A] at D;rw[y] at E
 change CpD (gA ws) (cpZ ws) (cpM ws) (cpT ws) at D
 refine⟨?_,E⟩;have a:∀ {i:Nat},17<=i->wd (gA ws) i=wd ws i:=λh=>mB (by omega);have x:=(ET ws).rch n;have k:∀i,i<16->slAt (gA ws) i=slAt ws i:=λi b=>by unfold slAt;rw[a (by omega)]
 have f:∀ {m:Nat},128<=m->szAt (gA ws) m=szAt ws m:=λd=>by unfold szAt;rw[a (by omega)]
 have q:∀ {m:Nat},128<=m->flds (gA ws) m=flds ws m:=λd=>by unfold flds;rw[a (by omega),a (by omega),a (by omega)]
 refine⟨D.len.trans (gR ws),λi b=>(D.low i b).trans (mB (by omega)),D.line,λi b=>?_,λp hp=>?_,by rw[<-gR ws];exact D.to,λo=>?_,λi b F d=>?_⟩
 .rw[D.sl i b];unfold nwS;rw[k i b]
 .obtain ⟨m,G,e,B,I,w,s,u,H,z,r⟩:=D.obj p hp;have d:=(x m).1 B;have c:=(h.rch d).1;rw[f c] at w s r;rw[a (by omega)] at u;rw[q c] at z r;refine⟨m,G,e,d,I,w,s,u,H,λi b=>?_,λi C J=>?_⟩
  .have:=z i b;rwa [a (by omega)] at this
  have:=r i C J;rwa [a (by omega)] at this
 .have:=D.free (by rw[gR];exact o);rwa [gR] at this
 rw[D.rest i b (by rw[(x1_hp n).2];exact F) (λm j=>?_),a (by have:=D.to.1;omega)];have g:=(x m).1 j;rw[f (h.rch g).1];exact d m g
end
section
variable {w z:List Nat} {t:Nat}
structure CpMv (w:List Nat):Prop where
 fst:(cpM w).map Prod.fst=eh w
 inc:(cpM w).Pairwise (λp q=>p.1<q.1)
 snd:(cpM w).Pairwise (λp q=>p.2<q.2)
 dn:∀p∈cpM w,128<=p.2/\p.2<=p.1
end
section
variable {w z:List Nat} {t:Nat}
structure CpR (w z:List Nat) (t:Nat):Prop where
 L:Lay w t
 D:CpD w z (cpM w) (cpT w)
 E:aP (cpL w) 128=(cpT w:Int)
 V:CpMv w
end
section
variable {w z:List Nat} {t:Nat}
end
end Go.Proofs.YtpcajamacpbjcaaGreat
