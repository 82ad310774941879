/- Texts laid together: LyQ CpE CpG CpH CpI. -/
import Derived.Test.YtpcajamacpbjcaaGreatZKR19
import Derived.Test.YtpcajamacpbjcaaGreatZKCp1
set_option maxHeartbeats 16000000
set_option linter.all false
namespace Go.Proofs.YtpcajamacpbjcaaGreat
open Go.RowKit
variable {ws:List Nat}{a i t:Nat}
structure Lay (ws:List Nat) (t:Nat):Prop where
 size:ap (ws.length:Int)=true
 ty:tyN ws=some t
 z16:∀i,16<=i->i<32->wd ws i=0
 tys:jN ws t=true
 sls:slsOk ws=true
 hp:ah ws=0
 adj:lL (af ws)=true
 wr:∀r,7<=r->r<12->∀b∈aK (af ws),wrK ws (iV ws t 8) (aK (af ws)) r b=false
 sl:∀i,i<16->pG (aK (af ws)) (slAt ws i)=true
theorem pI(h:tyN ws=some t):ap (ws.length:Int)=true:=by
 cases a:ap (ws.length:Int) with
 | true=>rfl
 | false=>rw[(xV a).1] at h;cases h
theorem lU(ws:List Nat)(T:List (List Nat))(O:List Bk)(r a z ty:Nat)(k:Int)(mk:Bool)(nx:Nat):wrK ws T O r ⟨(a:Int),(z:Int),k,(ty:Int),mk,nx⟩=wrB ws T O a z ty mk nx r:=by unfold wrK;simp only[kqi]
theorem Bo(ht:t<=8)(hi:i<t):(iV ws t 8)[i]? = some (bB (wd ws (96+2*i)) (wd ws (96+2*i+1))):=by unfold iV;rw[kxa ht,kx8,kql (by rw[kkx];exact hi)];simp
theorem lay_hp{l:List Bk}(ht:tyN ws=some t)(hl:blocks ws 128=some l)(hty:jN ws t=true)(h8:∀b∈aK l,wrK ws (iV ws t 8) (aK l) 8 b=false):ah ws=0/\af ws=l:=by
 refine fM (pI ht) hl ?_;rw[kzo];intro b m;by_cases i:b.kind=1
 .have f:b∈aK l:=kzm.2 ⟨m,by rw[kqw];exact i⟩;have h:=h8 b f;obtain⟨a,z,g,nx,mk,e,a1,a2,a3,a4,a5⟩:=iw hl f;rw[js i];rw[e] at h;rw[lU] at h;have h:(!decide (g<(iV ws t 8).length)||bZ (((iV ws t 8)[g]?).getD []).length != z)=false:=h;rw[kzl] at h;have j:=yQ ht;have d:g<t:=by have:=h.1;rw[ut] at this;simp at this;omega
  rw[Bo j d,kq8] at h;have c:=(kv ws t).1 hty g (by omega);unfold Et at c;rw[if_pos d] at c;have k:=h.2;rw[kqq] at k;have o:tyA b=96+2*g:=by rw[e];unfold tyA;simp
  have n:b.size=(z:Int):=by rw[e]
  rw[o,c,n,<-k];simp
 rw[eD i]
theorem lW(h:lay ws=true):∃t,Lay ws t:=by
 cases a:tyN ws with
 | none=>rw[tN (.inl a)] at h;cases h
 | some t =>
  cases d:blocks ws 128 with
  | none=>rw[tN (.inr d)] at h;cases h
  | some l =>
   obtain⟨e,j,f,r,p,g,m⟩:=(o8 a d).1 h;obtain⟨k,c⟩:=lay_hp a d f (λb n=>g 8 (by omega) (by omega) b n);refine⟨t,pI a,a,λi hi1 hi2=>?_,f,r,k,by rw[c];exact p,by rw[c];exact g,λi q=>by
    rw[c];exact m _ (kzz.2 ⟨i,kzn.2 q,rfl⟩)⟩
   rw[kI] at e j;rcases kq6 i 24 with o|o
   .have:=e (i-16) (by omega);rwa [show 16+(i-16)=i by omega] at this
   have:=j (i-24) (by omega);rwa [show 24+(i-24)=i by omega] at this
section
variable {ws:List Nat} {t:Nat}
theorem Lay.lay(h:Lay ws t):lay ws=true:=by have c:=(ga h.hp).2.2.2;rw[o8 h.ty c];refine⟨(kI _ _).2 λi a=>h.z16 _ (by omega) (by omega),(kI _ _).2 λi a=>h.z16 _ (by omega) (by omega),h.tys,h.sls,h.adj,h.wr,λs b=>?_⟩;obtain⟨i,a,rfl⟩:=kzz.1 b;exact h.sl i (kzn.1 a)
theorem uj(h0:ah ws=0){v:Nat}:th (aK (af ws)) v=true↔fT ws v:=by
 unfold th;rw[kjq];constructor
 .rintro ⟨b,h,e⟩;rw[kqw] at e;obtain⟨g,d⟩:=kzm.1 h;rw[kqw] at d;obtain⟨k,c,rfl⟩:=kq2 g;obtain⟨a,j,i⟩:=oh h0 c d;rw[j,ab] at e;obtain rfl:a=v:=by omega
  exact i
 intro f;obtain⟨k,c,e,-⟩:=f.2.2.2.2.2.2;exact⟨bkAt ws v,kzm.2 ⟨by rw[<-e];exact kqp c,by rw[kqw];exact f.2.2.2.2.1⟩,by rw[kqw,ab]⟩
theorem GE(ho:fT ws a):bkAt ws a∈aK (af ws):=by obtain⟨k,b,e,-⟩:=ho.2.2.2.2.2.2;exact kzm.2 ⟨by rw[<-e];exact kqp b,by rw[kqw];exact ho.2.2.2.2.1⟩
theorem Lay.obj(h:Lay ws t)(ho:fT ws a):(ar (wd ws a)).mark=false/\wd ws (a+1)=0/\(ar (wd ws a)).typ.toNat<t/\(iV ws t 8)[(ar (wd ws a)).typ.toNat]? = some (flds ws a)/\szAt ws a=bZ (flds ws a).length/\(∀r,7<=r->r<12->wrB ws (iV ws t 8) (aK (af ws)) a (szAt ws a) (ar (wd ws a)).typ.toNat (ar (wd ws a)).mark (wd ws (a+1)) r=false):=by
 have j:=GE ho;have m:bkAt ws a=⟨(a:Int),((szAt ws a:Nat):Int),(ar (wd ws a)).kind,(((ar (wd ws a)).typ.toNat:Nat):Int),(ar (wd ws a)).mark,wd ws (a+1)⟩:=by
  have k:(ar (wd ws a)).typ=(((ar (wd ws a)).typ.toNat:Nat):Int):=by unfold ar;dsimp only;omega
  rw[<-k];rfl
 have b:∀r,7<=r->r<12->wrB ws (iV ws t 8) (aK (af ws)) a (szAt ws a) (ar (wd ws a)).typ.toNat (ar (wd ws a)).mark (wd ws (a+1)) r=false:=by intro r l i;have:=h.wr r l i _ j;rw[m,lU] at this;exact this
 have g:((ar (wd ws a)).mark||decide (0<wd ws (a+1)))=false:=b 7 (by omega) (by omega);rw[kzl,kqh] at g;have d:(!decide ((ar (wd ws a)).typ.toNat<(iV ws t 8).length)||bZ (((iV ws t 8)[(ar (wd ws a)).typ.toNat]?).getD []).length != szAt ws a)=false:=b 8 (by omega) (by omega);rw[kzl,kqq] at d;have e:=yQ h.ty;have c:(ar (wd ws a)).typ.toNat<t:=by have:=d.1;rw[ut] at this;simp at this;omega
 have f:=Bo (ws:=ws) e c;rw[f,kq8] at d;exact⟨g.1,by omega,c,f,d.2.symm,b⟩
theorem Lay.ref(h:Lay ws t)(ho:fT ws a)(hi:(flds ws a)[i]? = some 3)(hv:wd ws (a+2+i)≠0):fT ws (wd ws (a+2+i)):=by
 obtain⟨-,-,-,e,-,f⟩:=h.obj ho;have b:=f 11 (by omega) (by omega);have b:((List.range (((iV ws t 8)[(ar (wd ws a)).typ.toNat]?).getD []).length).any λi=>wrF ws (((iV ws t 8)[(ar (wd ws a)).typ.toNat]?).getD []) (aK (af ws)) a 11 i)=false:=b;rw[e,kq8,List.any_eq_false] at b;have c:=(kq7.1 hi).1;have:=b i (kzn.2 c);unfold wrF at this;rw[if_neg (by decide),hi] at this;simp only[beq_self_eq_true,kzx,Bool.not_eq_true,kk0,kqh,kvj] at this;rw[<-uj h.hp];rcases this with d|d
 .omega
 exact d
theorem Lay.slot(h:Lay ws t)(hi:i<16)(hu:(slAt ws i).used=true):fT ws (slAt ws i).at_.toNat:=by
 have:=h.sl i hi;unfold pG at this;rw[hu] at this;rw[<-uj h.hp]
 simpa using this
theorem Lay.rch(h:Lay ws t)(ha:Rch ws a):fT ws a:=by
 induction ha with
 | slot i hi hu=>exact h.slot hi hu
 | ref _ i _ _ hf hv ih =>have b:=h.ref ih hf hv;have hlt:=b.2.2.1;have hb:=(ae _).1 h.size;rw[kxa (by omega)];exact b
theorem Lay.rc(h:Lay ws t):aA ws=0:=xH h.hp h.sls λ_ a=>(obj_tb h.hp (h.rch a)).2
end
def gF (ws:List Nat):List Nat:=aj ws [⟨16,1⟩]
noncomputable def cpZ (ws:List Nat):List Nat:=vE (gF ws)
noncomputable def cpT (ws:List Nat):Nat:=(aI (cpL ws) 128).toNat
theorem iS(ws:List Nat):(gF ws).length=ws.length:=av _ _
theorem mf(h:i≠16):wd (gF ws) i=wd ws i:=aQ _ _ _ λe a=>by rw[kqx] at a;subst a;dsimp only;omega
theorem nN(ho:∀v∈ws,v<18446744073709551616):∀v∈gF ws,v<18446744073709551616:=si _ _ ho λe a=>by rw[kqx] at a;subst a;dsimp only;omega
theorem BU(ws:List Nat):NxL ws (gF ws):=pO λe a=>by rw[kqx] at a;subst a;exact .inl (by dsimp only;omega)
theorem x1_hp(h0:ah ws=0):ah (gF ws)=0/\af (gF ws)=af ws:=by obtain⟨e,c⟩:=((BU ws).ev h0).heap h0;refine⟨e,?_⟩;rw[c,kzy (g:=id) (λb d=>?_),List.map_id];obtain⟨a,rfl,a1,-⟩:=(b8 h0).1 b d;show nxB (gF ws) (bkAt ws a)=bkAt ws a;unfold nxB;refine rK ?_;rw[ab,kqi,mf (by omega)];rfl
theorem Hf(h0:ah ws=0):seenL (gF ws)=seenL ws:=by unfold seenL;rw[iS];refine kzy λa _=>?_;exact decide_eq_decide.2 ((BU ws).rch h0 a)
theorem x1_cp(h0:ah ws=0):cpL (gF ws)=cpL ws/\cpM (gF ws)=cpM ws:=by
 have e:cpL (gF ws)=cpL ws:=by unfold cpL;rw[(x1_hp h0).2];refine kzy λb _=>?_;unfold mkS eQ;rw[Hf h0]
 exact⟨e,by unfold cpM;rw[e]⟩
theorem Lay.first(h:Lay ws t):wd (gF ws) 16=1/\aw (gF ws)=0/\aA (gF ws)=0/\dU (gF ws)=dU ws:=by
 have hb:=(ae _).1 h.size;have b:wd (gF ws) 16=1:=ki (j:=16) (l:=[]) (by omega) (λe f=>by cases f);obtain⟨i,g,d⟩:=(BU ws).same h.hp;have a:=h.z16;have c:cu (gF ws)=0:=by
  refine zJ (by rw[iS];exact h.size) ?_ ?_
  .rw[bq,iS,b,mf (by omega),mf (by omega),mf (by omega),mf (by omega),mf (by omega),mf (by omega),mf (by omega),a 17 (by omega) (by omega),a 18 (by omega) (by omega),a 19 (by omega) (by omega),a 20 (by omega) (by omega),a 21 (by omega) (by omega),a 22 (by omega) (by omega),a 23 (by omega) (by omega)];omega
  rw[b,mf (by omega),mf (by omega),a 17 (by omega) (by omega),a 18 (by omega) (by omega)];rfl
 exact⟨b,uU c (by omega) (by omega) i,by rw[g];exact h.rc,d⟩
section
variable {ws:List Nat} {t:Nat}
theorem Lay.run(h:Lay ws t)(ho:∀v∈ws,v<18446744073709551616):CpF (gF ws):=by obtain⟨a,b,c,-⟩:=h.first;exact cpF (nN ho) a b c
theorem Lay.desc(h:Lay ws t)(ho:∀v∈ws,v<18446744073709551616):CpD ws (cpZ ws) (cpM ws) (cpT ws)/\aI (cpL ws) 128=(cpT ws:Int):=by
 have r:=h.hp;obtain⟨p16,-,n,-⟩:=h.first;obtain⟨D,E⟩:=(h.run ho).desc n;obtain⟨s,F⟩:=x1_cp r;rw[s,F] at D;rw[s] at E
 change CpD (gF ws) (cpZ ws) (cpM ws) (cpT ws) at D
 refine⟨?_,E⟩;have a:∀ {i:Nat},17<=i->wd (gF ws) i=wd ws i:=λh=>mf (by omega);have w:=(BU ws).rch r;have k:∀i,i<16->slAt (gF ws) i=slAt ws i:=λi b=>by unfold slAt;rw[a (by omega)]
 have g:∀ {m:Nat},128<=m->szAt (gF ws) m=szAt ws m:=λd=>by unfold szAt;rw[a (by omega)]
 have l:∀ {m:Nat},128<=m->flds (gF ws) m=flds ws m:=λd=>by unfold flds;rw[a (by omega),a (by omega),a (by omega)]
 refine⟨D.len.trans (iS ws),λi b=>(D.low i b).trans (mf (by omega)),D.line,λi b=>?_,λp hp=>?_,by rw[<-iS ws];exact D.to,λj=>?_,λi b A d=>?_⟩
 .rw[D.sl i b];unfold nwS;rw[k i b]
 .obtain ⟨m,J,e,G,H,u,x,y,I,z,q⟩:=D.obj p hp;have d:=(w m).1 G;have c:=(h.rch d).1;rw[g c] at u x q;rw[a (by omega)] at y;rw[l c] at z q;refine⟨m,J,e,d,H,u,x,y,I,λi b=>?_,λi C B=>?_⟩
  .have:=z i b;rwa [a (by omega)] at this
  have:=q i C B;rwa [a (by omega)] at this
 .have:=D.free (by rw[iS];exact j);rwa [iS] at this
 rw[D.rest i b (by rw[(x1_hp r).2];exact A) (λm o=>?_),a (by have:=D.to.1;omega)];have f:=(w m).1 o;rw[g (h.rch f).1];exact d m f
end
section
variable {w z:List Nat} {t:Nat}
structure CpMv (w:List Nat):Prop where
 fst:(cpM w).map Prod.fst=dU w
 inc:(cpM w).Pairwise (λp q=>p.1<q.1)
 snd:(cpM w).Pairwise (λp q=>p.2<q.2)
 dn:∀p∈cpM w,128<=p.2/\p.2<=p.1
end
section
variable {w z:List Nat} {t:Nat}
structure CpR (w z:List Nat) (t:Nat):Prop where
 L:Lay w t
 D:CpD w z (cpM w) (cpT w)
 E:aI (cpL w) 128=(cpT w:Int)
 V:CpMv w
end
section
variable {w z:List Nat} {t:Nat}
end
end Go.Proofs.YtpcajamacpbjcaaGreat
