import Derived.Test.YtpcajamacpbjcaaGreatZKLy1
set_option maxHeartbeats 16000000
set_option maxRecDepth 100000
set_option linter.all false
namespace Go.Proofs.YtpcajamacpbjcaaGreat
open Go.RowKit Go.Maps
variable {fn:Func}{G a b w:Int}{ad:List Int}{H g k n:Nat}{p:Tmp}{t:TypeId}{v:Value}{W w':World}
open Go.Proofs.Tryz
def yG (x w:Int):Bool:=decide (16<=x)&&(decide (x<w)&&(decide (x<24)||decide (96<=x)))
def eP (ad:List Int) (w:Int):Nat->Bool
 | 0=>true
 | k+1=>eP ad w k&&(yG (ad[k]?.getD 0) w && !bT ad (ad[k]?.getD 0) k)
def dG (ad:List Int) (w:Int):Int:=if am w=true then (if 32<ad.length then 4 else if eP ad w ad.length=true then 0 else 8) else 2
theorem ns(h:eP ad w n=true)(hk:k<=n):eP ad w k=true:=by
 induction n with
 | zero =>
  have:k=0:=(by omega);subst this;exact h
 | succ n b =>
  rcases kq8 k (n+1) with a|a
  .simp only[eP,kqs] at h;exact b h.1 (by omega)
  have:k=n+1:=(by omega);subst this;exact h
theorem pm(h:am w=false):dG ad w=2:=by simp[dG,h]
theorem oh(h:am w=true)(a:32<ad.length):dG ad w=4:=by simp[dG,h,a]
theorem jZ(h:am w=true)(h2:ad.length<=32)(a:eP ad w k=false)(d:k<=ad.length):dG ad w=8:=by
 have b:eP ad w ad.length=false:=by
  cases c:eP ad w ad.length with
  | false=>rfl
  | true=>rw[ns c d] at a;cases a
 have c:¬ 32<ad.length:=(by omega);simp[dG,h,b,c]
theorem nj(h:am w=true)(h2:ad.length<=32)(a:eP ad w ad.length=true):dG ad w=0:=by
 have b:¬ 32<ad.length:=(by omega);simp[dG,h,a,b]
theorem tS(h:dG ad w=0):am w=true/\ad.length<=32/\eP ad w ad.length=true:=by
 unfold dG at h;split at h
 .split at h
  .simp at h
  split at h
  .exact ⟨by assumption,by omega,by assumption⟩
  simp at h
 simp at h
theorem mS(x w:Int):yG x w=true↔16<=x/\x<w/\(x<24\/96<=x):=by simp[yG]
theorem zV(h:eP ad w n=true)(a:k<n):yG (ad[k]?.getD 0) w=true/\bT ad (ad[k]?.getD 0) k=false:=by have:=ns h (show k+1<=n from a);simp only[eP,kqs,kxq] at this;exact this.2
theorem sN(h:yG (ad[k]?.getD 0) w=false):eP ad w (k+1)=false:=by simp[eP,h]
theorem mm(h:bT ad (ad[k]?.getD 0) k=true):eP ad w (k+1)=false:=by simp[eP,h]
theorem lJ(a:eP ad w k=true)(h:yG (ad[k]?.getD 0) w=true)(b:bT ad (ad[k]?.getD 0) k=false):eP ad w (k+1)=true:=by simp[eP,a,h,b]
def qo (n:Int):Int:=if am n=true then 0 else 2
theorem vZ{n:Int}(h:am n=true):qo n=0:=by simp[qo,h]
theorem mY{n:Int}(h:am n=false):qo n=2:=by simp[qo,h]
theorem nG(n:Int)(w:World):Calls prog 218 #[.int .i64 n] w λe a=>e=.returned (.int .i64 (qo n))/\w=a:=by
 by_cases a:n<256
 .have H:Hid (qo n=2):=y5 (mY (by simp[am];omega));go_enter func218,ntmps218;go_wp2;go_ret;exact⟨by rw[H.out];rfl,rfl⟩
 have h3:256<=n:=(by omega);clear a;by_cases a:2048<n
 .have H:Hid (qo n=2):=y5 (mY (by simp[am];omega));go_enter func218,ntmps218;go_wp2;go_ret;exact⟨by rw[H.out];rfl,rfl⟩
 have h4:n<=2048:=(by omega);clear a;by_cases a:n%8=0
 .have H:Hid (qo n=0):=y5 (vZ (by simp[am];omega));have b:(n%8 != 0)=false:=by rw[kqt];exact a
  clear a;go_enter func218,ntmps218;go_wp2;go_ret;exact⟨by rw[H.out];rfl,rfl⟩
 have H:Hid (qo n=2):=y5 (mY (by simp[am];omega));have b:(n%8 != 0)=true:=by rw[kqx];exact a
 clear a;go_enter func218,ntmps218;go_wp2;go_ret;exact⟨by rw[H.out];rfl,rfl⟩
theorem lQ(n:Int)(w:World):Calls prog 148 #[.int .i64 n] w λe a=>e=.returned (.bool (am n))/\w=a:=by
 by_cases a:n<256
 .have H:Hid (am n=false):=y5 (by simp[am];omega);go_enter func148,ntmps148;go_wp2;go_ret;exact⟨by rw[H.out];rfl,rfl⟩
 have b:256<=n:=(by omega);clear a;by_cases a:2048<n
 .have H:Hid (am n=false):=y5 (by simp[am];omega);go_enter func148,ntmps148;go_wp2;go_ret;exact⟨by rw[H.out];rfl,rfl⟩
 have c:n<=2048:=(by omega);have H:Hid (am n=(n%8==0)):=y5 (by simp[am,b,c]);clear a;go_enter func148,ntmps148;go_wp2;go_ret;exact⟨by rw[H.out];rfl,rfl⟩
theorem Dy(x n:Int)(w:World):Calls prog 219 #[.int .i64 x,.int .i64 n] w λe a=>e=.returned (.bool (yG x n))/\w=a:=by
 have H:Hid (∀b:Bool,(b=true↔16<=x/\x<n/\(x<24\/96<=x))->b=yG x n):=y5 λb h=>by rw[kzk,mS];exact h
 go_enter func219,ntmps219;go_wp2_with fail
 all_goals
  go_ret;exact⟨iL (H.out _ (by simp;omega)),rfl⟩
theorem CN(x n:Int)(w:World):Calls prog 231 #[.int .i64 x,.int .i64 n] w λe a=>e=.returned (.bool (yG x n))/\w=a:=by
 have H:Hid (∀b:Bool,(b=true↔16<=x/\x<n/\(x<24\/96<=x))->b=yG x n):=y5 λb h=>by rw[kzk,mS];exact h
 go_enter func231,ntmps231;go_wp2_with fail
 all_goals
  go_ret;exact⟨iL (H.out _ (by simp;omega)),rfl⟩
def E6 (B:Nat) (w:World) (g:Nat) (ad:List Int) (k:Nat):Prop:=
 (k=0/\Bx w g 278 #[.map none])\/(∃b,B<=b/\Bx w g 278 #[.map (some b)]/\w.ownsMap prog 3 (plainElem prog 4) b k (fI ad k))
def Jp (B:Nat) (g:Nat) (ad:List Int) (k:Nat) (r:Bool) (w:World) (e:Ending) (w':World):Prop:=e=.returned (.bool r)/\E6 B w' g ad (k+1)/\Below B w w'/\(∀h t cs,Bx w h t cs->h≠g->Bx w' h t cs)
theorem add_c(B g:Nat)(ad:List Int)(k:Nat)(x:Int)(w:World)(b:ad[k]?.getD 0=x)(c : -9223372036854775808<=x/\x<=9223372036854775807)(hk:k<=1000000)(v:B<=g)(L:E6 B w g ad k):
 Calls prog 220 #[.pointer (some ⟨g,0,none⟩),.int .i64 x] w (Jp B g ad k (!bT ad x k) w):=by
 have a:(Lit.int .i64 x).wf=true:=by simp[Lit.wf,IntKind.min,IntKind.max,IntKind.signed,IntKind.bits];omega
 obtain⟨s,HX,E,f⟩:=yq2 (keyOf_int_mk (P:=prog) underlying3 a) b (show fI ad (k+1)=(fI ad k).put (.int .i64 x) (.lit (.bool true)) by simp only[fI,b]) (na ad x k);obtain⟨r,d⟩:=xq (bT ad x k);rw[d] at f |-;clear b a d c;rcases L with⟨A,l⟩|⟨b,o,l,d⟩
 .subst A;obtain⟨I,c1,J⟩:=l.c1;have q:=λW:World=>run_eql_map_nil (P:=prog) W 161 3 4 none underlying161;have e:=y5 l;clear l;have hmm:=@run_makeMap prog;have a:((w.setCell ⟨g,0,none⟩ (.map (some w.heap.size))).alloc (Obj.map #[] 0)).ownsMap prog 3 (plainElem prog 4) w.heap.size 0 (fI ad 0):=by have:=World.ownsMap_made (H:=Unit) (w.setCell ⟨g,0,none⟩ (.map (some w.heap.size))) prog 3 (plainElem prog 4);rwa [kxc] at this
  have C:=jf a nh underlying161 underlying4 (m9 _) s.out f.out;obtain⟨i,n,y⟩:=yq1 a (((e.out.set_ 0 (.map (some w.heap.size)))).alloc (Obj.map #[] 0)) ((((kqe B w).setCell (p:=⟨g,0,none⟩) v (.map (some w.heap.size)))).alloc (by simp;omega) (Obj.map #[] 0));clear a;go_enter func220,ntmps220;go_wp2_with (at_mapUpdate;refine wpList_mapUpdate_own _ rfl _ _ _ 161 rfl 3 4 nh underlying161 _ w.heap.size 0 _ rfl i.out (by simp[maxLen]) _ _ _ rfl rfl s.out (.lit (.bool true)) [] (plainElem_bool underlying4 true) ?_;intro G c a);go_ret;have m:=y.out.grown a (by simp;omega) (λj z=>by cases z;omega);refine⟨rfl,.inr ⟨w.heap.size,by omega,n.out.grown a (gU n.out i.out),by rw[E.out];exact c⟩,m,λh t K u D=>?_⟩;have F:=(u.far (p:=⟨g,0,none⟩) D (.map (some w.heap.size))).alloc (Obj.map #[] 0);exact F.grown a (gU F i.out)
 obtain⟨I,c1,J⟩:=l.c1;have C:=jf d nh underlying161 underlying4 (m9 w) s.out f.out;have q:=λW:World=>run_eql_map_nil (P:=prog) W 161 3 4 (some b) underlying161;have e:=y5 l;clear l;go_enter func220,ntmps220;go_wp2_with (at_mapUpdate;refine wpList_mapUpdate_own _ rfl _ _ _ 161 rfl 3 4 nh underlying161 _ b k _ rfl d (by unfold maxLen;omega) _ _ _ rfl rfl s.out (.lit (.bool true)) [] (plainElem_bool underlying4 true) ?_;intro G c a);go_ret;have m:Below B w G:=(kqe B w).grown a (by omega) (λj z=>by cases z;exact o);exact⟨rfl,.inr ⟨b,o,e.out.grown a (gU e.out d),by rw[E.out];exact c⟩,m,λh t K u _=>u.grown a (gU u d)⟩
theorem Ee{l:List En}(b:∀e∈l,e.ok)(a:k<l.length): -9223372036854775808<=(b9 l)[k]?.getD 0/\(b9 l)[k]?.getD 0<=9223372036854775807:=by rw[cZ l k a];have:=b l[k] (kqp a);exact⟨this.1,this.2.1⟩
theorem wZ(A:Option Addr)(l:List En)(c n:Nat)(G:Int)(w:World)(d:l.length=n)(hm:n<=9223372036854775807)(b:RdE w w.heap.size A l)(a:∀e∈l,e.ok):
 Calls prog 170 #[.slice A n c,.int .i64 G] w λe f=>e=.returned (.int .i64 (dG (b9 l) G))/\Below w.heap.size w f:=by
 subst d;obtain⟨M,L⟩:=yq0 b a;clear b a;cases a:am G
 .obtain⟨r,b⟩:=yq0 (pm (ad:=b9 l) a) (mY a);clear a;go_enter func170,ntmps170;go_wp2_with fail;refine (nG G w).mono ?_;rintro e C ⟨rfl,rfl⟩;rw[b.out];go_wp2;go_ret;exact⟨by rw[r.out];rfl,kqe _ _⟩
 obtain⟨z,b⟩:=yq0 a (vZ a);clear a;by_cases a:32<l.length
 .have r:=y5 (oh (ad:=b9 l) z.out (by rw[bD];exact a));go_enter func170,ntmps170;go_wp2_with fail;refine (nG G w).mono ?_;rintro e C ⟨rfl,rfl⟩;rw[b.out];go_wp2;go_ret;exact⟨by rw[r.out];rfl,kqe _ _⟩
 have j:l.length<=32:=(by omega);have hgt:decide ((32:Int)<(l.length:Int))=false:=(by rw[kqb];omega);clear a;go_enter func170,ntmps170;go_wp2_with fail;refine (nG G w).mono ?_;rintro e C ⟨rfl,rfl⟩;rw[b.out];go_wp2_with fail;go_loopw [19] (λi wr=>∃k:Nat,k<=l.length/\i=.int .i64 k/\eP (b9 l) G k=true/\E6 w.heap.size wr w.heap.size (b9 l) k/\Below w.heap.size w wr) (λi _=>l.length-(intOf i).toNat)
 case atStart=>exact⟨0,kqv _,rfl,rfl,.inl ⟨rfl,Bx.new w _ _⟩,(kqe _ _).alloc (kqa _) _⟩
 obtain⟨k,hk,rfl,g,i,q⟩:=hrel;have K:=q.size;by_cases d:k<l.length
 .obtain ⟨b,y,rfl,J,B,o⟩:=M.out.at_ d;replace B:=(q.cell (p:=⟨b,y+k*2,none⟩) J).trans B;replace o:=(q.cell (p:=⟨b,y+k*2+1,none⟩) J).trans o;have f:=Ee L.out d;rw[<-cZ l k d] at B;obtain⟨x,s⟩:=xq ((b9 l)[k]?.getD 0);rw[s] at B f;obtain⟨F,t,D⟩:=yq1 g s f;have ik1:(0:Int)<=(k:Int):=(by omega);have ik2:(k:Int)<(l.length:Int):=(by omega);have a:E6 w.heap.size (wr.alloc (.cells #[.int .i64 x,.int .u64 (l[k].v:Int)] 89)) w.heap.size (b9 l) k:=by
   rcases i with⟨o,h⟩|⟨m,o,h,u⟩
   .exact .inl ⟨o,h.alloc _⟩
   exact .inr ⟨m,o,h.alloc _,u.alloc _⟩
  have H:=y5 a;clear g s i a f;go_wp2_with fail;refine (Dy x G _).mono ?_;rintro e C ⟨rfl,rfl⟩;cases f:yG x G
  .have a:=y5 (jZ z.out (by rw[bD];exact j) (k:=k+1) (sN (by rw[t.out];exact f)) (by rw[bD];exact d));clear f;go_wp2;go_ret;exact⟨by rw[a.out];rfl,q.alloc K _⟩
  have E:=y5 f;clear f;go_wp2_with fail;refine (add_c w.heap.size w.heap.size (b9 l) k x _ t.out D.out (by omega) (kqa _) H.out).mono ?_;rintro e C ⟨rfl,f,I,-⟩;have u:=(q.alloc K (.cells #[.int .i64 x,.int .u64 (l[k].v:Int)] 89)).trans I;cases h:bT (b9 l) x k
  .have m:=y5 (lJ F.out (by rw[t.out];exact E.out) (by rw[t.out];exact h));clear h;have s:=y5 f;clear f;go_wp2;go_roundw;exact⟨k+1,by omega,by go_num,m.out,s.out,u⟩;simp[intOf];omega
  have a:=y5 (jZ z.out (by rw[bD];exact j) (k:=k+1) (mm (by rw[t.out];exact h)) (by rw[bD];exact d));clear h f;go_wp2;go_ret;exact⟨by rw[a.out];rfl,u⟩
 obtain rfl:k=l.length:=(by omega);have r:=y5 (nj z.out (by rw[bD];exact j) (by rw[bD];exact g));clear i g;go_wp2;go_ret;exact⟨by rw[r.out];rfl,q⟩
theorem rW(A:Option Addr)(l:List En)(c n:Nat)(G:Int)(w:World)(b:l.length=n)(hm:n<=9223372036854775807)(a:RdE w w.heap.size A l):
 Calls prog 184 #[.slice A n c,.int .i64 G] w λe d=>e=.returned (.int .i64 (dG (b9 l) G))/\Below w.heap.size w d:=by
 subst b;have E:=y5 a;clear a;cases a:am G
 .obtain⟨r,m⟩:=yq0 (pm (ad:=b9 l) a) a;clear a;go_enter func184,ntmps184;go_wp2_with fail;refine (lQ G w).mono ?_;rintro e J ⟨rfl,rfl⟩;rw[m.out];go_wp2;go_ret;exact⟨by rw[r.out];rfl,kqe _ _⟩
 have m:=y5 a;clear a;by_cases a:32<l.length
 .have r:=y5 (oh (ad:=b9 l) m.out (by rw[bD];exact a));go_enter func184,ntmps184;go_wp2_with fail;refine (lQ G w).mono ?_;rintro e J ⟨rfl,rfl⟩;rw[m.out];go_wp2;go_ret;exact⟨by rw[r.out];rfl,kqe _ _⟩
 have o:l.length<=32:=(by omega);have hgt:decide ((32:Int)<(l.length:Int))=false:=(by rw[kqb];omega);clear a;go_enter func184,ntmps184;go_wp2_with fail;refine (lQ G w).mono ?_;rintro e J ⟨rfl,rfl⟩;rw[m.out];go_wp2_with fail;go_loopw [5] (λi wr=>∃k:Nat,k<=l.length/\i=.int .i64 k/\eP (b9 l) G k=true/\Below w.heap.size w wr) (λi _=>l.length-(intOf i).toNat)
 case atStart=>exact⟨0,kqv _,rfl,rfl,kqe _ _⟩
 obtain⟨k,hk,rfl,h,u⟩:=hrel;have hz:=u.size;by_cases a:k<l.length
 .obtain ⟨b,q,rfl,I,B,-⟩:=E.out.at_ a;replace B:=(u.cell (p:=⟨b,q+k*2,none⟩) I).trans B;rw[<-cZ l k a] at B;obtain⟨x,d⟩:=xq ((b9 l)[k]?.getD 0);rw[d] at B;obtain⟨D,t⟩:=yq0 h d;have ik1:(0:Int)<=(k:Int):=(by omega);have ik2:(k:Int)<(l.length:Int):=(by omega);clear h d;go_wp2_with fail;refine (CN x G _).mono ?_;rintro e J ⟨rfl,rfl⟩;cases d:yG x G
  .have f:=y5 (jZ m.out (by rw[bD];exact o) (k:=k+1) (sN (by rw[t.out];exact d)) (by rw[bD];exact a));clear d;go_wp2;go_ret;exact⟨by rw[f.out];rfl,u⟩
  have C:=y5 d;clear d;obtain⟨wo,d⟩:∃wo,wo=wr:=⟨_,rfl⟩;subst d;go_wp2_with fail;go_loopw [6] (λj wr=>∃i:Nat,i<=k/\j=.int .i64 i/\bT (b9 l) x i=false/\Below w.heap.size w wr) (λj _=>k-(intOf j).toNat)
  case atStart=>exact⟨0,kqv _,rfl,rfl,u⟩
  obtain⟨i,hi,rfl,d,g⟩:=hrel;have s:=y5 d;clear d;by_cases hli:i<k
  .obtain ⟨b',off',L,hb',z,-⟩:=E.out.at_ (show i<l.length by omega);cases L;obtain⟨b'',off'',H,hb'',F,-⟩:=E.out.at_ a;cases H;replace z:=(g.cell (p:=⟨b,q+i*2,none⟩) I).trans z;replace F:=(g.cell (p:=⟨b,q+k*2,none⟩) I).trans F;rw[<-cZ l i (by omega)] at z;rw[<-cZ l k a,t.out] at F;obtain⟨y,d⟩:=xq ((b9 l)[i]?.getD 0);rw[d] at z;have K:=y5 d;clear d;have ji1:(0:Int)<=(i:Int):=(by omega);have ji2:(i:Int)<(l.length:Int):=(by omega);by_cases d:y=x
   .have M:(y==x)=true:=by rw[kqw];exact d
    have v:bT (b9 l) x k=true:=qx (j:=i+1) (by simp[bT,K.out,d]) (by omega);have f:=y5 (jZ m.out (by rw[bD];exact o) (k:=k+1) (mm (by rw[t.out];exact v)) (by rw[bD];exact a));clear d v;go_wp2_with fail;go_quiet (fail);go_wp2;go_ret;exact⟨by rw[f.out];rfl,cF g _⟩
   have M:(y==x)=false:=by rw[kqc];exact d
   have j:=y5 (show bT (b9 l) x (i+1)=false by simp[bT,s.out,K.out,d]);clear d;go_wp2_with fail;go_quiet (fail);go_wp2;go_roundw;exact⟨i+1,by omega,by go_num,j.out,cF g _⟩;simp[intOf];omega
  obtain rfl:i=k:=(by omega);have d:=y5 (lJ D.out (by rw[t.out];exact C.out) (by rw[t.out];exact s.out));go_wp2;go_roundw;exact⟨i+1,by omega,by go_num,d.out,g⟩;simp[intOf];omega
 obtain rfl:k=l.length:=(by omega);have r:=y5 (nj m.out (by rw[bD];exact o) (by rw[bD];exact h));clear h;go_wp2;go_ret;exact⟨by rw[r.out];rfl,u⟩
def bH:List En->List Nat
 | []=>[]
 | e::l=>e.a.toNat::e.v::bH l
def eO (l:List En) (G:Int):List Nat:=if dG (b9 l) G=0 then bH l else []
theorem fZ(l:List En):(bH l).length=2*l.length:=by
 induction l with
 | nil=>rfl
 | cons e l a=>simp only[bH,kq4,a];omega
theorem pN(l:List En)(e:En):bH (l++[e])=bH l++[e.a.toNat,e.v]:=by
 induction l with
 | nil=>rfl
 | cons x l b=>simp[bH,b]
def Am (H:Nat) (l:List En) (G:Int) (e:Ending) (w':World):Prop:=∃A c,e=.returned (.tuple #[.slice A (eO l G).length c,.int .i64 (dG (b9 l) G)])/\w'.ownsRow H 53 1 (.slice A (eO l G).length c) (eO l G).length ((eO l G).flatMap ap)
theorem sO{M:Nat}{l:List En}(a:dG (b9 l) G=0)(f:n=2*l.length)(h:w'.ownsRow M 53 1 v n ((bH l).flatMap ap))(e:H<=M):Am H l G (.returned (.tuple #[v,.int .i64 0])) w':=by
 have d:eO l G=bH l:=by simp[eO,a]
 have b:(eO l G).length=n:=by rw[d,fZ,f]
 obtain⟨A,c,rfl⟩:=aw h;refine⟨A,c,by rw[b,a],?_⟩;rw[b,d];exact ab h e
theorem Ez{l:List En}{r:Int}(b:dG (b9 l) G=r)(a:r≠0):Am H l G (.returned (.tuple #[.slice none 0 0,.int .i64 r])) w':=by
 subst b;have:eO l G=[]:=by simp[eO,a]
 exact⟨none,0,by rw[this];rfl,by rw[this];exact kq3 _ _ _ _⟩
theorem C9(w:World)(cs:List Value)(t:TypeId)(h:w.heap.size=H):∀j u,cs[j]? = some u->(w.alloc (.cells cs.toArray t)).cell? ((⟨H,0,none⟩:Addr).add j)=some u:=by subst h;exact bc w cs t
theorem py(A:Option Addr)(l:List En)(c n:Nat)(G:Int)(w:World)(f:l.length=n)(Q:n<=9223372036854775807)(m:RdE w w.heap.size A l)(b:∀e∈l,e.ok):
 Calls prog 124 #[.slice A n c,.int .i64 G] w λe d=>Am w.heap.size l G e d/\Below w.heap.size w d:=by
 subst f;obtain⟨L,K⟩:=yq0 m b;clear m b;obtain⟨S,g,f,b,d⟩:=kzh mZ;obtain⟨O,B,C,D⟩:=yq2 g f b d;clear g f b d;go_enter func124,ntmps124;go_wp2_with fail;refine (wZ A l c l.length G w rfl Q L.out K.out).mono ?_;rintro e y ⟨rfl,j⟩;have f:=j.size;by_cases g:dG (b9 l) G=0
 .obtain ⟨d,E,b⟩:=tS g;rw[bD] at E;obtain⟨N,P⟩:=yq0 g b;have hw2:=((ae G).1 d).2.1;rw[g];clear g b d;go_wp2_with fail;go_loopw [7,18] (λv i wr=>∃k:Nat,k<=l.length/\i=.int .i64 k/\wr.ownsRow y.heap.size 53 1 v (2*k) ((bH (l.take k)).flatMap ap)/\Below y.heap.size y wr) (λ_ i _=>l.length-(intOf i).toNat)
  case atStart=>exact⟨0,kqv _,rfl,kq3 _ _ _ _,kqe _ _⟩
  obtain⟨k,hk,rfl,d,u⟩:=hrel;have R:=u.size;by_cases h:k<l.length
  .obtain ⟨b,t,rfl,M,g,q⟩:=L.out.at_ h;have r:=j.trans (u.mono f);replace g:=(r.cell (p:=⟨b,t+k*2,none⟩) M).trans g;replace q:=(r.cell (p:=⟨b,t+k*2+1,none⟩) M).trans q;have i:=(mS _ _).1 (zV P.out (show k<(b9 l).length by rw[bD];exact h)).1;rw[cZ l k h] at i;have s:=(K.out l[k] (kqp h)).2.2;have J:Hid (∀x v,l[k].a=x->l[k].v=v->0<=x->(bH (l.take (k+1))).flatMap ap=(bH (l.take k)).flatMap ap++[.int .u64 x,.int .u64 (v:Int)]):=y5 λx v q o z=>by
    rw[kqi h,pN,kzv,q,o];simp only[kzz,List.flatMap_nil,ap,kzf,kzq,kz5];rw[kx8 z]
   obtain⟨x,H⟩:=xq (l[k].a);obtain⟨v,F⟩:=xq (l[k].v);have o:=J.out x v H F;rw[H] at g i;rw[F] at q s;obtain⟨T,U,-⟩:=i;have I:0<=x:=(by omega);have hx1:x<=2048:=(by omega);have z:=y5 (o I);have hv0:(0:Int)<=(v:Int):=(by omega);have ik1:(0:Int)<=(k:Int):=(by omega);have ik2:(k:Int)<(l.length:Int):=(by omega);clear J o H F T U s;go_wp2_with (at_builtin;refine kq7 _ rfl _ _ 22 rfl y.heap.size 53 S _ 1 8 underlying22 O.out B.out C.out D.out rfl (by decide) _ _ _ rfl ((d.alloc _).alloc _) ⟨_,0,none⟩ 2 2 [.int .u64 x,.int .u64 (v:Int)] rfl rfl (C9 _ _ _ (kqm _ _)) (by simp[Value.oneCell']) (by unfold maxLen;omega) (by omega) (by simp;omega) ?_;intro v1 w1 o F _);have s:=ay (u.alloc R (.cells #[.int .i64 x,.int .u64 (v:Int)] 89)) (by simp;omega) (d.alloc _) F;go_roundw;exact⟨k+1,by omega,by go_num,by rw[z.out,show 2*(k+1)=2*k+2 by omega];exact o,s⟩;simp[intOf];omega
  obtain rfl:k=l.length:=(by omega);rw[kzb] at d;go_wp2;go_ret2;exact⟨sO N.out rfl d f,j.trans (u.mono f)⟩
 have d:=y5 g;obtain⟨r,m⟩:=xq (dG (b9 l) G);have hn1:(r==0)=false:=by rw[<-m,kqc];exact g
 have hn2:(r != 0)=true:=by rw[<-m,kqx];exact g
 have b:=y5 m;rw[m];clear g m;go_wp2;go_ret2;exact⟨Ez b.out (by rw[<-b.out];exact d.out),j⟩
def lV (cs:Array Value) (ad:List Int) (n:Nat):Prop:=cs.size=256/\∀i,i<256->cs[i]? = some (.bool (dr ad (8*(i:Int)) n))
theorem CR{cs:Array Value}{x:Nat}(h:lV cs ad k)(b:ad[k]?.getD 0=(x:Int)):lV (cs.setIfInBounds (x/8) (.bool true)) ad (k+1):=by
 refine⟨by rw[kke];exact h.1,λi a=>?_⟩;rw[kxu];simp only[dr,b];by_cases e:x/8=i
 .subst e;rw[if_pos rfl,if_pos (by rw[h.1];exact a)];have:((x:Int)/8==8*((x/8:Nat):Int)/8)=true:=(by rw[kqw];omega);rw[this,kvv]
 have:((x:Int)/8==8*(i:Int)/8)=false:=(by rw[kqc];omega);rw[if_neg e,h.2 i a,this,kvm]
def kv:Array Value:=Array.replicate 256 (.bool false)
theorem u9(w:World):(zeroValue 156).run prog w=.ok (.agg kv) w:=by kernel_rfl
theorem lines0(ad:List Int):lV kv ad 0:=⟨by simp[kv],λi a=>by simp[kv,a,dr]⟩
def LnRes (ad:List Int) (n:Nat) (e:Ending):Prop:=∃cs,e=.returned (.agg cs)/\lV cs ad n
theorem In(A:Option Addr)(l:List En)(c n:Nat)(w:World)(d:l.length=n)(hm:n<=9223372036854775807)(b:RdE w w.heap.size A l)(a:∀k,k<l.length->0<=(b9 l)[k]?.getD 0/\(b9 l)[k]?.getD 0<2048):
 Calls prog 181 #[.slice A n c] w λe f=>LnRes (b9 l) n e/\Below w.heap.size w f:=by
 subst d;obtain⟨B,z⟩:=yq0 b a;clear b a;have hzv:=u9;go_enter func181,ntmps181;go_wp2_with fail;go_loopw [7] (λi wr=>∃(k:Nat) (d:Array Value),k<=l.length/\i=.int .i64 k/\lV d (b9 l) k/\Bx wr w.heap.size 156 d/\Below w.heap.size w wr) (λi _=>l.length-(intOf i).toNat)
 case atStart=>exact⟨0,_,kqv _,rfl,lines0 _,Bx.new w _ _,(kqe _ _).alloc (kqa _) _⟩
 obtain⟨k,d,hk,rfl,a,f,m⟩:=hrel;have hz:=m.size;by_cases j:k<l.length
 .obtain ⟨b,o,rfl,u,q,t⟩:=B.out.at_ j;replace q:=(m.cell (p:=⟨b,o+k*2,none⟩) u).trans q;replace t:=(m.cell (p:=⟨b,o+k*2+1,none⟩) u).trans t;obtain⟨y,D⟩:=z.out k j;rw[<-cZ l k j] at q;obtain⟨x,r⟩:=kqz y;rw[r] at q y D;have C:=y5 r;have s:x/8<256:=(by omega);have h:=f.cell (x/8);rw[a.2 _ s] at h;have hfr:=f.frozen (x/8);have hlt2:=f.lt;obtain⟨g,e⟩:=yq0 a f;have ik1:(0:Int)<=(k:Int):=(by omega);have ik2:(k:Int)<(l.length:Int):=(by omega);clear r a f;go_wp2_with fail;refine⟨⟨k+1,_,by omega,by go_num,CR g.out C.out,(e.out.set_ (x/8) (.bool true)).alloc _,(m.setCell (p:=⟨w.heap.size,x/8,none⟩) (kqa _) _).alloc (by simp;omega) _⟩,?_⟩;simp[intOf];omega
 obtain rfl:k=l.length:=(by omega);have o:(prog.info? 156).map (·.size)=some d.size:=by rw[a.1];kernel_rfl
 have q:d.all (·.oneCell')=true:=by rw[kkn];intro i o;have h:=a.2 i (by have:=a.1;omega);rw[kx7 o] at h;injection h with h;rw[h];rfl
 have b:=y5 (qm f);have h:=ki f;obtain⟨g,e⟩:=yq0 a f;clear a f;go_wp2_with (first
  | (refine kz7 rfl _ _ rfl w.heap.size (by rfl) 156 d (0,0) _ e.out underlying156 (by rfl) o ?_)
  | (refine kjr rfl _ _ _ rfl w.heap.size 0 d (by rfl) (by rfl) h o q ?_;rw[b.out]))
 refine kqq (v:=.agg d) (results_cell_row rfl _ _ w.heap.size _ d (0,0) _ (by rfl) e.out underlying156 (by rfl) o) rfl ⟨⟨d,rfl,g.out⟩,m⟩
open Go.RowKit
structure Dw where
 a:Int
 v:Nat
 f:Bool
 deriving DecidableEq,Inhabited
variable {l:List Dw}
def Dw.cells (x:Dw):List Value:=[.int .i64 x.a,.int .u64 (x.v:Int),.bool x.f]
theorem Dw.len(x:Dw):x.cells.length=3:=rfl
theorem Dw.one:∀x:Dw,∀u∈x.cells,u.oneCell'=true:=λx u a=>by unfold Dw.cells at a;simp only[kq0,kzm,or_false] at a;rcases a with rfl|rfl|rfl<;>rfl
structure Dv where
 im:List Nat
 dw:List Dw
 left:Int
 down:Bool
 deriving DecidableEq,Inhabited
variable {d:Dv}
def fP (n:Nat):List Dw->Int->Bool
 | [],_=>true
 | e::l,b=>decide (b<e.a)&&(decide (e.a<(n:Int))&&fP n l e.a)
def fg (d:Dv):Bool:=am (d.im.length:Int)&&(decide (-1<=d.left)&&(decide (d.left<=1000000)&&((!d.down||d.left==0)&&fP d.im.length d.dw (-1))))
def dZ (d:Dv):Int:=if fg d=true then 0 else 8
def iU (x:List Nat) (l:List Dw):List Nat:=l.foldl (λx e=>x.set e.a.toNat e.v) x
def dvV (d:Dv):List Nat:=iU d.im d.dw
def dec (l:Int):Int:=if 0<l then l-1 else l
def stQ:List Dw->Int->Nat->List Dw
 | [],a,v=>[⟨a,v,false⟩]
 | e::l,a,v=>if e.a<a then e::stQ l a v else if e.a=a then ⟨a,v,false⟩::l else ⟨a,v,false⟩::e::l
def flB (a:Int) (e:Dw):Dw:=if e.a/8=a/8 then { e with f:=true } else e
def flQ (a:Int) (l:List Dw):List Dw:=l.map (flB a)
def fnI (x:List Nat) (l:List Dw):List Nat:=iU x (l.filter (·.f))
def fnQ (l:List Dw):List Dw:=l.filter λe=>!e.f
def dvD (d:Dv):Dv:={ d with down:=true }
def dvS (d:Dv) (a:Int) (v:Nat):Dv:=if d.left=0 then dvD d else { d with dw:=stQ d.dw a v,left:=dec d.left }
def dvF (d:Dv) (a:Int):Dv:=if d.left=0 then dvD d else { d with dw:=flQ a d.dw,left:=dec d.left }
def dvN (d:Dv):Dv:=if d.left=0 then dvD d else { d with im:=fnI d.im d.dw,dw:=fnQ d.dw,left:=dec d.left }
def rT (d:Dv) (l:List En):Dv:=l.foldl (λd e=>dvS d e.a e.v) d
def lE (ad:List Int) (d:Dv):Nat->Dv
 | 0=>d
 | k+1=>if dr ad (8*(k:Int)) ad.length=true then dvF (lE ad d k) (8*(k:Int)) else lE ad d k
def rpP (d:Dv) (l:List En):Dv:=dvN (lE (b9 l) (rT d l) 256)
def lsE (a:Int):List Nat->List En
 | []=>[]
 | v::l=>⟨a,v⟩::lsE (a+1) l
def cmW (l:List En):Nat:=(aR 14695981039346656037 (bH l)%288230376151711744)*64+l.length
def atM (d:Dv) (l:List En):Dv:=if l=[] then d else rpP (rpP (rpP (rpP d (lsE 32 (bH l))) [⟨24,cmW l⟩]) l) [⟨24,0⟩]
def atErr (d:Dv) (l:List En):Int:=if dZ d=0 then (if dG (b9 l) (d.im.length:Int)=0 then (if wd (dvV d) 24=0 then 0 else 8) else dG (b9 l) (d.im.length:Int)) else dZ d
theorem mV:∀(l:List Dw) (x:List Nat),(iU x l).length=x.length:=by
 intro l
 induction l with
 | nil=>intro x;rfl
 | cons e l b=>intro x;show (iU (x.set e.a.toNat e.v) l).length=_;rw[b,kq5]
theorem cq(d:Dv):fg d=true↔am (d.im.length:Int)=true /\ -1<=d.left/\d.left<=1000000/\(d.down=true->d.left=0)/\fP d.im.length d.dw (-1)=true:=by
 unfold fg;simp only[kqs,kze,kxw,kxq,kqw];constructor
 .rintro ⟨b,c,e,a,f⟩;refine⟨b,c,e,λh=>?_,f⟩;rcases a with a|a
  .rw[a] at h;cases h
  exact a
 rintro ⟨b,c,e,a,f⟩;refine⟨b,c,e,?_,f⟩;cases g:d.down with
 | false=>exact .inl rfl
 | true=>exact .inr (a g)
theorem iS(h:dZ d=0):fg d=true:=by
 unfold dZ at h;split at h
 .assumption
 cases h
theorem iY(h:fg d=true):dZ d=0:=by unfold dZ;rw[if_pos h]
theorem CW{b':Int}(h:fP n l b=true)(hb:b'<=b):fP n l b'=true:=by
 cases l with
 | nil=>rfl
 | cons e l =>simp only[fP,kqs,kze] at h |-;exact⟨by omega,h.2⟩
theorem fc :∀ {l:List Dw} {b:Int},fP n l b=true->∀e∈l,b<e.a/\e.a<(n:Int):=by
 intro l
 induction l with
 | nil=>intro b _ e c;exact absurd c (by simp)
 | cons x l d =>
  intro b h e c;simp only[fP,kqs,kze] at h;rcases kq0.1 c with rfl|c
  .exact ⟨h.1,h.2.1⟩
  have:=d h.2.2 e c;omega
theorem stQ_to{v:Nat}(g:a<(n:Int)):∀ {l:List Dw} {b:Int},fP n l b=true->b<a->fP n (stQ l a v) b=true:=by
 intro l
 induction l with
 | nil=>intro b _ f;simp[stQ,fP];omega
 | cons e l d =>
  intro b h f;simp only[fP,kqs,kze] at h;unfold stQ;by_cases c:e.a<a
  .rw[if_pos c];simp only[fP,kqs,kze];exact⟨h.1,h.2.1,d h.2.2 c⟩
  rw[if_neg c];by_cases d:e.a=a
  .rw[if_pos d];simp only[fP,kqs,kze];exact⟨f,g,by rw[<-d];exact h.2.2⟩
  rw[if_neg d];simp only[fP,kqs,kze];exact⟨f,g,by omega,h.2.1,h.2.2⟩
theorem flQ_to :∀ {l:List Dw} {b:Int},fP n (flQ a l) b=fP n l b:=by
 intro l
 induction l with
 | nil=>intro b;rfl
 | cons e l d =>
  intro b;have c:(flB a e).a=e.a:=by unfold flB;split<;>rfl
  show (decide (b<(flB a e).a)&&(decide ((flB a e).a<(n:Int))&&fP n (flQ a l) (flB a e).a))=_;rw[c,d];rfl
theorem AD{p:Dw->Bool}:∀ {l:List Dw} {b:Int},fP n l b=true->fP n (l.filter p) b=true:=by
 intro l
 induction l with
 | nil=>intro b _;rfl
 | cons e l a =>
  intro b h;simp only[fP,kqs,kze] at h;rw[kxf];split
  .simp only[fP,kqs,kze];exact⟨h.1,h.2.1,a h.2.2⟩
  exact CW (a h.2.2) (by omega)
theorem AR{l:Int}(h1 : -1<=l)(h2:l<=1000000): -1<=dec l/\dec l<=1000000:=by unfold dec;split<;>omega
theorem zR(h:fg d=true)(a:d.left=0):fg (dvD d)=true:=by rw[cq] at h |-;exact⟨h.1,h.2.1,h.2.2.1,λ_=>a,h.2.2.2.2⟩
theorem v9{v:Nat}(h:fg d=true)(h0:0<=a)(f:a<(d.im.length:Int)):fg (dvS d a v)=true:=by
 unfold dvS;by_cases b:d.left=0
 .rw[if_pos b];exact zR h b
 rw[if_neg b];rw[cq] at h |-;obtain⟨c,e⟩:=AR h.2.1 h.2.2.1;exact⟨h.1,c,e,λg=>absurd (h.2.2.2.1 g) b,stQ_to f h.2.2.2.2 (by omega)⟩
theorem zn(h:fg d=true):fg (dvF d a)=true:=by
 unfold dvF;by_cases b:d.left=0
 .rw[if_pos b];exact zR h b
 rw[if_neg b];rw[cq] at h |-;obtain⟨c,e⟩:=AR h.2.1 h.2.2.1;exact⟨h.1,c,e,λf=>absurd (h.2.2.2.1 f) b,by dsimp only;rw[flQ_to];exact h.2.2.2.2⟩
theorem GB(h:fg d=true):fg (dvN d)=true:=by
 unfold dvN;by_cases b:d.left=0
 .rw[if_pos b];exact zR h b
 rw[if_neg b];rw[cq] at h |-;obtain⟨c,e⟩:=AR h.2.1 h.2.2.1;have a:(fnI d.im d.dw).length=d.im.length:=mV _ _;refine⟨by dsimp only;rw[a];exact h.1,c,e,λf=>absurd (h.2.2.2.1 f) b,?_⟩;dsimp only;rw[a];exact AD h.2.2.2.2
theorem ss(d:Dv)(a:Int)(v:Nat):(dvS d a v).im=d.im:=by unfold dvS dvD;split<;>rfl
theorem Cq(d:Dv)(a:Int):(dvF d a).im=d.im:=by unfold dvF dvD;split<;>rfl
theorem ub(d:Dv):(dvN d).im.length=d.im.length:=by
 unfold dvN dvD;split
 .rfl
 exact mV _ _
theorem Jw:∀(l:List En) (d:Dv),(rT d l).im=d.im:=by
 intro l
 induction l with
 | nil=>intro d;rfl
 | cons e l b=>intro d;show (rT (dvS d e.a e.v) l).im=_;rw[b,ss]
theorem IK(ad:List Int)(d:Dv):∀k,(lE ad d k).im=d.im:=by
 intro k
 induction k with
 | zero=>rfl
 | succ k a =>
  unfold lE;split
  .rw[Cq,a]
  exact a
theorem iB(d:Dv)(l:List En):(rpP d l).im.length=d.im.length:=by unfold rpP;rw[ub,IK,Jw]
theorem AG:∀(l:List En) {d:Dv},fg d=true->(∀e∈l,0<=e.a/\e.a<(d.im.length:Int))->fg (rT d l)=true:=by
 intro l
 induction l with
 | nil=>intro d h _;exact h
 | cons e l g =>intro d h c;have b:=c e (by simp);exact g (d:=dvS d e.a e.v) (v9 h b.1 b.2) λx f=>by rw[ss];exact c x (by simp[f])
theorem Bb(h:fg d=true):∀k,fg (lE ad d k)=true:=by
 intro k
 induction k with
 | zero=>exact h
 | succ k a =>
  unfold lE;split
  .exact zn a
  exact a
theorem pS{l:List En}(h:fg d=true)(b:∀e∈l,0<=e.a/\e.a<(d.im.length:Int)):fg (rpP d l)=true:=GB (Bb (AG l h b) _)
def RdQ (w:World) (B:Nat) (A:Option Addr) (l:List Dw):Prop:=Rd w B A (l.flatMap Dw.cells)
theorem RdQ.at_{w:World}{B:Nat}{A:Option Addr}(h:RdQ w B A l)(i:k<l.length):
 ∃b c,A=some ⟨b,c,none⟩/\b<B/\w.cell? ⟨b,c+k*3,none⟩=some (.int .i64 l[k].a)/\w.cell? ⟨b,c+k*3+1,none⟩=some (.int .u64 (l[k].v:Int))/\w.cell? ⟨b,c+k*3+2,none⟩=some (.bool l[k].f):=by obtain⟨b,c,e,g,d⟩:=Rd.at_flat Dw.len h (by omega) i;exact⟨b,c,e,g,d 0 (by omega),d 1 (by omega),d 2 (by omega)⟩
theorem rV(c:k<l.length):fP n (l.drop k) b=(decide (b<l[k].a)&&(decide (l[k].a<(n:Int))&&fP n (l.drop (k+1)) l[k].a)):=by rw[kz8 c];rfl
def tO (n:Nat) (lf:Int) (dn:Bool):Bool:=am (n:Int)&&(decide (-1<=lf)&&(decide (lf<=1000000)&&(!dn||lf==0)))
theorem uM(im:List Nat)(dw:List Dw)(b:Int)(a:Bool):fg ⟨im,dw,b,a⟩=(tO im.length b a&&fP im.length dw (-1)):=by unfold fg tO;simp only[Bool.and_assoc]
theorem kV(A v:Option Addr)(im:List Nat)(dw:List Dw)(d:Int)(f:Bool)(n c m C:Nat)(w:World)(g:im.length=n)(i:dw.length=m)(b:n<=9223372036854775807)(hm2:m<=4611686018427387904)(h:RdQ w w.heap.size v dw):
 Calls prog 123 #[.agg #[.slice A n c,.slice v m C,.int .i64 d,.bool f]] w λe a=>e=.returned (.int .i64 (dZ ⟨im,dw,d,f⟩))/\Below w.heap.size w a:=by
 have s:=y5 (λW=>aJ A n c W b);have u:Hid (dZ ⟨im,dw,d,f⟩=if tO n d f&&fP n dw (-1) then 0 else 8):=y5 (by unfold dZ;rw[uM,g]);have a:tO n d f=(am (n:Int)&&(decide (-1<=d)&&(decide (d<=1000000)&&(!f||d==0)))):=rfl;obtain⟨F,l,K⟩:=yq1 (Bx.new w 79 #[.slice A n c,.slice v m C,.int .i64 d,.bool f]) ((kqe w.heap.size w).alloc (kqa _) (.cells #[.slice A n c,.slice v m C,.int .i64 d,.bool f] 79)) h;obtain⟨t,r⟩:=xq (w.alloc (.cells #[.slice A n c,.slice v m C,.int .i64 d,.bool f] 79));rw[r] at F l;obtain⟨O,q1,q2,q3,-,-,-,-,M⟩:=F.out.c4;clear h g b;cases b:am (n:Int)
 .have j:Hid (dZ ⟨im,dw,d,f⟩=8):=y5 (by rw[u.out,a,b];rfl);have q:=y5 (bQ b);clear b a;go_enter func123,ntmps123;go_wp2_with fail;refine (s.out t).mono ?_;rintro e D ⟨rfl,rfl⟩;rw[q.out];clear r;go_wp2;go_ret;exact⟨by rw[j.out];rfl,l.out⟩
 have q:=y5 (aM b);rw[b,kzx] at a;clear b;by_cases h1:d < -1
 .have j:Hid (dZ ⟨im,dw,d,f⟩=8):=y5 (by rw[u.out,a,decide_eq_false (by omega)];rfl);clear a;go_enter func123,ntmps123;go_wp2_with fail;refine (s.out t).mono ?_;rintro e D ⟨rfl,rfl⟩;rw[q.out];clear r;go_wp2;go_ret;exact⟨by rw[j.out];rfl,l.out⟩
 rw[decide_eq_true (show -1<=d by omega),kzx] at a;by_cases h2:1000000<d
 .have j:Hid (dZ ⟨im,dw,d,f⟩=8):=y5 (by rw[u.out,a,decide_eq_false (by omega)];rfl);clear a;go_enter func123,ntmps123;go_wp2_with fail;refine (s.out t).mono ?_;rintro e D ⟨rfl,rfl⟩;rw[q.out];clear r;go_wp2;go_ret;exact⟨by rw[j.out];rfl,l.out⟩
 rw[decide_eq_true (show d<=1000000 by omega),kzx] at a;have b:(f=true/\d≠0)\/(!f||d==0)=true:=by
  cases f with
  | false=>exact .inr rfl
  | true =>
   by_cases h:d=0
   .exact .inr (by rw[h];rfl)
   exact .inl ⟨rfl,h⟩
 rcases b with⟨rfl,b⟩|b
 .have g:(d==0)=false:=by rw[kqc];exact b
  have e4:(d != 0)=true:=by rw[kqx];exact b
  have j:Hid (dZ ⟨im,dw,d,true⟩=8):=y5 (by rw[u.out,a,g];rfl);clear a b g;go_enter func123,ntmps123;go_wp2_with fail;refine (s.out t).mono ?_;rintro e D ⟨rfl,rfl⟩;rw[q.out];clear r;go_wp2;go_ret;exact⟨by rw[j.out];rfl,l.out⟩
 rw[b] at a;rw[a,kzx] at u;have L:f=false\/(f=true/\d=0):=by
  cases f with
  | false=>exact .inl rfl
  | true=>exact .inr ⟨rfl,by simpa using b⟩
 have E:=y5 (K.out.below l.out);subst i;clear a b;rcases L with rfl|⟨rfl,rfl⟩
 all_goals
  go_enter func123,ntmps123;go_wp2_with fail;refine (s.out t).mono ?_;rintro e D ⟨rfl,rfl⟩;rw[q.out];clear r;go_wp2_with fail;go_loopw [33,4] (λi a wr=>∃(k:Nat) (b:Int),k<=dw.length/\i=.int .i64 k/\a=.int .i64 b/\Hid (fP n dw (-1)=fP n (dw.drop k) b)/\Below t.heap.size t wr) (λi _ _=>dw.length-(intOf i).toNat)
  case atStart=>exact⟨0,-1,kqv _,rfl,rfl,y5 rfl,kqe _ _⟩
  obtain⟨k,b,N,rfl,rfl,B,y⟩:=hrel;by_cases a:k<dw.length
  .obtain ⟨g,o,rfl,hgb,H,I,J⟩:=RdQ.at_ (show RdQ wr w.heap.size v dw from Rd.keep E.out λp hp=>y.cell (by have:=l.out.size;omega)) a;have z:=y5 (rV (n:=n) (b:=b) a);obtain⟨x,G⟩:=xq (dw[k]);rw[G] at H I J z;obtain⟨h,Q,P⟩:=x;dsimp only at H I J z;have r0:=(y.cell (p:=⟨w.heap.size,0,none⟩) M).trans O;have hki:(k:Int)<(dw.length:Int):=(by omega);have hk0:(0:Int)<=(k:Int):=(by omega);have p:=y.size;have hgw:w.heap.size<wr.heap.size:=(by omega);have i:=y5 (y.alloc p (.cells #[.int .i64 h,.int .u64 (Q:Int),.bool P] 92));clear G y;by_cases c1:h<=b
   .have j:Hid (fP n dw (-1)=false):=y5 (by rw[B.out,z.out,decide_eq_false (by omega)];rfl);go_wp2;go_ret;exact⟨by rw[u.out,j.out];rfl,l.out.trans (i.out.mono l.out.size)⟩
   by_cases c2:(n:Int)<=h
   .have j:Hid (fP n dw (-1)=false):=y5 (by rw[B.out,z.out,decide_eq_false (show ¬ h<(n:Int) by omega)];simp);go_wp2;go_ret;exact⟨by rw[u.out,j.out];rfl,l.out.trans (i.out.mono l.out.size)⟩
   have j:Hid (fP n dw (-1)=fP n (dw.drop (k+1)) h):=y5 (by rw[B.out,z.out,decide_eq_true (show b<h by omega),decide_eq_true (show h<(n:Int) by omega)];simp);go_wp2;go_roundw;exact⟨k+1,h,by omega,by go_num,rfl,j,i.out⟩;simp[intOf];omega
  have j:Hid (fP n dw (-1)=true):=y5 (by rw[B.out,kk7 (by omega)];rfl);have hend:decide ((k:Int)<(dw.length:Int))=false:=(by rw[kqb];omega);have hendn:decide (k<dw.length)=false:=by rw[kqb];exact a
  clear a N;go_wp2;go_ret;exact⟨by rw[u.out,j.out];rfl,l.out.trans (y.mono l.out.size)⟩
theorem gu:(prog.info? 79).map (·.size)=some 4:=by kernel_rfl
theorem pd:(prog.info? 92).map (λi=>(i.zero,i.size,i.bytes))=some (some (.agg #[.int .i64 0,.int .u64 0,.bool false]),3,24):=by kernel_rfl
theorem cV(h:fn.results=#[.cell p 79])(a:Array Value){cs:Array Value}(c:Bx W g t cs)(i:cs.size=4)(f:a.getD p undef=.pointer (some ⟨g,0,none⟩)):
 (results fn a).run prog W=.ok (.agg cs) W:=by
 have b:a[p]?.getD undef=.pointer (some ⟨g,0,none⟩):=by simpa using f
 have d:(prog.info? 79).map (·.size)=some cs.size:=by rw[i];exact gu
 have e:=run_loadVar_row W g t 79 cs (0,0) _ c underlying79 rfl d;simp[results,h,b,asAddr,e]
theorem aF{q:Tmp}(h:fn.results=#[.cell p 79,.tmp q])(a:Array Value){cs:Array Value}{u:Value}(d:Bx W g t cs)(k:cs.size=4)(i:a.getD p undef=.pointer (some ⟨g,0,none⟩))(j:a.getD q undef=u):
 (results fn a).run prog W=.ok (.tuple #[.agg cs,u]) W:=by
 have b:a[p]?.getD undef=.pointer (some ⟨g,0,none⟩):=by simpa using i
 have c:a[q]?.getD undef=u:=by simpa using j
 have e:(prog.info? 79).map (·.size)=some cs.size:=by rw[k];exact gu
 have f:=run_loadVar_row W g t 79 cs (0,0) _ d underlying79 rfl e;simp[results,h,b,c,asAddr,f]
section
variable {ops:Array Oper} {rest:List Oper} {a:Act} {w:World} {Q:Exit->Act->World->Prop} {dst:Option Tmp} {type:TypeId} {pos:String} {after:Array Edge} {x y:Operand} {g:Nat} {old new:Array Value}
theorem stD(f:Bx w g 79 old)(h:∀b,Hid (Bx b g 79 new)->Hid (fT w b g)->wpList prog ops Q rest (a.put dst undef) b)(k:a.eval x=.pointer (some ⟨g,0,none⟩):=by rfl)(hy:a.eval y=.agg new:=by rfl)(i:new.size=old.size:=by rfl)(j:new.size=4:=by rfl)(c:new.all (·.oneCell')=true:=by simp[Value.oneCell']):
 wpList prog ops Q ({ dst := dst,op := .store 79 x y,type := type,pos := pos,after := after,guard := none }::rest) a w:=
 ai rfl _ _ _ rfl g _ old new k hy f i (by rw[j];exact gu) c λb d e=>h b (y5 d) (y5 e)
theorem ldD(b:Bx w g 79 old)(h:wpList prog ops Q rest (a.put dst (.agg old)) w)(d:a.eval x=.pointer (some ⟨g,0,none⟩):=by rfl)(c:old.size=4:=by rfl):
 wpList prog ops Q ({ dst := dst,op := .load 79 x,type := type,pos := pos,after := after,guard := none }::rest) a w:=
 kz7 rfl _ _ rfl g d 79 old (0,0) _ b underlying79 (by rfl) (by rw[c];exact gu) h
end
theorem gP(w:World)(A a:Option Addr)(e:Int)(d:Bool)(n c m b:Nat):∃W0,(w.alloc (.cells #[.slice A n c,.slice a m b,.int .i64 e,.bool d] 79)).alloc (.cells #[.slice none 0 0,.slice none 0 0,.int .i64 0,.bool false] 79)=W0/\Bx W0 w.heap.size 79 #[.slice A n c,.slice a m b,.int .i64 e,.bool d]/\Bx W0 (w.heap.size+1) 79 #[.slice none 0 0,.slice none 0 0,.int .i64 0,.bool false]/\Below w.heap.size w W0/\W0.heap.size=w.heap.size+1+1:=by have f:=Bx.new (w.alloc (.cells #[.slice A n c,.slice a m b,.int .i64 e,.bool d] 79)) 79 #[.slice none 0 0,.slice none 0 0,.int .i64 0,.bool false];rw[kqm] at f;exact⟨_,rfl,(Bx.new w 79 #[.slice A n c,.slice a m b,.int .i64 e,.bool d]).alloc (.cells #[.slice none 0 0,.slice none 0 0,.int .i64 0,.bool false] 79),f,((kqe w.heap.size w).alloc (kqa _) (.cells #[.slice A n c,.slice a m b,.int .i64 e,.bool d] 79)).alloc (by simp) (.cells #[.slice none 0 0,.slice none 0 0,.int .i64 0,.bool false] 79),by simp⟩
def OwnQ (w:World) (l:List Dw) (e:Ending) (w':World):Prop:=∃A c,e=.returned (.slice A l.length c)/\w'.ownsRow w.heap.size 92 3 (.slice A l.length c) l.length (l.flatMap Dw.cells)/\Below w.heap.size w w'
theorem wB(A:Option Addr)(l:List Dw)(c n:Nat)(w:World)(q:l.length=n)(hm:n<=1000000)(h:RdQ w w.heap.size A l):
 Calls prog 125 #[.slice A n c] w λe a=>OwnQ w l e a:=by
 obtain⟨t,k,j⟩:=yq1 h q (bU Dw.cells 3 Dw.len l);have d:=λ(W:World)=>Lib.run_eql_slice_nil (P:=prog) (w:=W) 77 92 A n c 0 0 underlying77;obtain⟨v,g,a,b,f⟩:=kzh pd;obtain⟨s,m,o,p⟩:=yq2 g a b f;clear g a b f;cases A with
 | none =>
  have f:l=[]:=by
   cases l with
   | nil=>rfl
   | cons x l =>obtain⟨b,off,e,-⟩:=RdQ.at_ h (show 0<(x::l).length by simp);cases e
  have a:=y5 f;simp only[Option.isNone_none] at d;clear h q f;go_enter func125,ntmps125;go_wp2;go_ret;exact⟨none,0,by rw[a.out];rfl,by rw[a.out];exact kq3 _ _ _ _,kqe _ _⟩
 | some a =>simp only[Option.isNone_some] at d;clear h q;go_enter func125,ntmps125;go_wp2_with (at_builtin;refine aW _ (by rfl) _ _ 77 rfl w.heap.size 92 v _ 3 24 underlying77 s.out m.out o.out p.out rfl (by decide) (.slice (some ⟨w.heap.size,0,none⟩) 0 0) 0 [] (by rfl) (gc w _ _ _ (kqa _)) w.heap.size (some a) n _ (l.flatMap Dw.cells) (by rfl) (by rw[j.out,k.out]) (Rd.alloc t.out (kqa _) _) (db Dw.one _) (by unfold maxLen;omega) (by omega) (by simp) ?_;intro v1 wa b g;have f:=bi ((kqe w.heap.size w).alloc (kqa _) _) (by simp) (gc w w.heap.size 92 3 (kqa _)) g;simp only[kxg,kz5] at b;obtain⟨r,u,rfl⟩:=aw b;have e:=y5 b;have i:=y5 f;clear b f g);go_ret;exact⟨r,u,by rw[k.out];rfl,by rw[k.out];exact e.out,i.out⟩
def iE (w':World) (H:Nat) (d:Dv) (v:Value):Prop:=∃A c DA dc,v=.agg #[.slice A d.im.length c,.slice DA d.dw.length dc,.int .i64 d.left,.bool d.down]/\d.im.length<=c/\w'.ownsRow H 53 1 (.slice A d.im.length c) d.im.length (d.im.flatMap ap)/\w'.ownsRow H 92 3 (.slice DA d.dw.length dc) d.dw.length (d.dw.flatMap Dw.cells)
theorem D8(A o:Option Addr)(im:List Nat)(dw:List Dw)(j:Int)(i:Bool)(n c m s:Nat)(w:World)(l:im.length=n)(k:dw.length=m)(h0:0<n)(T:n<=1000000)(S:m<=1000000)(r:RdW w w.heap.size A im)(q:RdQ w w.heap.size o dw):
 Calls prog 265 #[.agg #[.slice A n c,.slice o m s,.int .i64 j,.bool i]] w λe a=>(∃v,e=.returned v/\iE a w.heap.size ⟨im,dw,j,i⟩ v)/\Below w.heap.size w a:=by
 obtain⟨y,x⟩:=yq0 (λW (h:RdW W W.heap.size A im)=>ra A im c n W.heap.size W l h0 T h (kqa _)) (λW (h:RdQ W W.heap.size o dw)=>wB o dw s m W k S h);unfold OwnW at y;unfold OwnQ at x;rw[l] at y;rw[k] at x;obtain⟨HR,HQ⟩:=yq0 r q;have a:=(Bx.new w 79 #[.slice A n c,.slice o m s,.int .i64 j,.bool i]).alloc (.cells #[.slice none 0 0,.slice none 0 0,.int .i64 0,.bool false] 79);have d:=Bx.new (w.alloc (.cells #[.slice A n c,.slice o m s,.int .i64 j,.bool i] 79)) 79 #[.slice none 0 0,.slice none 0 0,.int .i64 0,.bool false];rw[kqm] at d;have f:=((kqe w.heap.size w).alloc (kqa _) (.cells #[.slice A n c,.slice o m s,.int .i64 j,.bool i] 79)).alloc (by simp) (.cells #[.slice none 0 0,.slice none 0 0,.int .i64 0,.bool false] 79);have h:((w.alloc (.cells #[.slice A n c,.slice o m s,.int .i64 j,.bool i] 79)).alloc (.cells #[.slice none 0 0,.slice none 0 0,.int .i64 0,.bool false] 79)).heap.size=w.heap.size+1+1:=(by simp);obtain⟨F,g⟩:=xq ((w.alloc (.cells #[.slice A n c,.slice o m s,.int .i64 j,.bool i] 79)).alloc (.cells #[.slice none 0 0,.slice none 0 0,.int .i64 0,.bool false] 79));rw[g] at a d f h;obtain⟨X0,X1,C⟩:=yq1 a d f;obtain⟨q0,q1,q2,q3,-,-,-,-,Q⟩:=a.c4;have B:w.heap.size<=F.heap.size:=(by omega);have I:w.heap.size+1<F.heap.size:=(by omega);have R:(prog.info? 79).map (·.size)=some (#[.slice A n c,.slice o m s,.int .i64 j,.bool i]:Array Value).size:=gu;obtain⟨z,D⟩:=yq0 l k;clear r q a d f h l k;go_enter func265,ntmps265;go_wp2_with fail;clear g;refine (y.out F (HR.out.up C.out B)).mono ?_;rintro e V ⟨h,g,rfl,k,f⟩;have E:=y5 k;have a:=X0.out.up f Q;have d:=X1.out.up f I;have J:=y5 (C.out.trans (f.mono B));have hz1:=f.size;obtain⟨q0,q1,q2,q3,f0,f1,-,-,hg1⟩:=a.c4;obtain⟨O,P⟩:=yq0 a d;clear k f a d;go_wp2_with fail;have t:w.heap.size+1≠w.heap.size:=(by omega);have l:∀b,some b≠(Value.slice (some ⟨h,0,none⟩) n g).ownBlock->True:=λ_ _=>trivial;have k:=J.out.setCell (p:=⟨w.heap.size,0,none⟩) (kqa _) (.slice (some ⟨h,0,none⟩) n g);have a:=O.out.set_ 0 (.slice (some ⟨h,0,none⟩) n g);have d:=P.out.far (p:=⟨w.heap.size,0,none⟩) t (.slice (some ⟨h,0,none⟩) n g);have r:=ar E.out (bI E.out Q).symm (p:=⟨w.heap.size,0,none⟩) (.slice (some ⟨h,0,none⟩) n g);have U:(V.setCell ⟨w.heap.size,0,none⟩ (.slice (some ⟨h,0,none⟩) n g)).heap.size=V.heap.size:=kxc _ _ _;obtain⟨G,f⟩:∃G,V.setCell ⟨w.heap.size,0,none⟩ (.slice (some ⟨h,0,none⟩) n g)=G:=⟨_,rfl⟩;rw[f] at k a d r U |-;obtain⟨Y0,Y1,O2,q⟩:=yq2 a d r k;have H:w.heap.size<G.heap.size:=(by omega);have u:w.heap.size+1<G.heap.size:=(by omega);clear f a d r k l;refine (x.out G (yq8 HQ q)).mono ?_;rintro e W ⟨l,r,rfl,k,f⟩;have K:=yq7 q f;obtain⟨X,Y⟩:=yq0 (ag O2.out f (kqa _)) k;have a:=Y0.out.up f H;have d:=Y1.out.up f u;have hz3:=f.size;obtain⟨q0,q1,q2,q3,f0,f1,-,-,hg3⟩:=(show Bx W w.heap.size 79 #[.slice (some ⟨h,0,none⟩) n g,.slice o m s,.int .i64 j,.bool i] from a).c4;obtain⟨Z0,Z1,L,N,Z⟩:=yq3 (show Bx (W.setCell ⟨w.heap.size,1,none⟩ (.slice l m r)) w.heap.size 79 #[.slice (some ⟨h,0,none⟩) n g,.slice l m r,.int .i64 j,.bool i] from a.set_ 1 (.slice l m r)) (d.far (p:=⟨w.heap.size,1,none⟩) t (.slice l m r)) (K.out.setCell (p:=⟨w.heap.size,1,none⟩) (kqa _) (.slice l m r)) (ar X.out (bI X.out Q).symm (p:=⟨w.heap.size,1,none⟩) (.slice l m r)) (ar Y.out (bI Y.out H).symm (p:=⟨w.heap.size,1,none⟩) (.slice l m r));clear k f a d;go_wp2_with (first
  | ((with_reducible refine av 79 (.tmp 1) ?_);refine kz7 rfl _ _ rfl w.heap.size (by rfl) 79 _ (0,0) _ Z0.out underlying79 (by rfl) gu ?_)
  | ((with_reducible refine aj 79 (.tmp 2) _ ?_);refine ai rfl _ _ _ rfl (w.heap.size+1) 79 #[.slice none 0 0,.slice none 0 0,.int .i64 0,.bool false] #[.slice (some ⟨h,0,none⟩) n g,.slice l m r,.int .i64 j,.bool i] (by rfl) (by rfl) Z1.out rfl R (by simp[Value.oneCell']) ?_;intro k f d;have M:=y5 f;have a:=y5 d;clear f d))
 have d:(W.setCell ⟨w.heap.size,1,none⟩ (.slice l m r)).grownBy k (some (w.heap.size+1)):=by have f:=a.out.2.2 (w.heap.size+1) (kqa _);exact⟨f.os,f.tape,f.output,by rw[a.out.1];exact kqa _,λk hk t=>a.out.2.1 k (λe=>t (by rw[e]))⟩
 refine kqq (v:=.agg #[.slice (some ⟨h,0,none⟩) n g,.slice l m r,.int .i64 j,.bool i]) (cV results265 _ M.out rfl rfl) rfl ⟨⟨_,rfl,some ⟨h,0,none⟩,g,l,r,by rw[z.out,D.out],?_,?_,?_⟩,a.out.below L.out (by omega)⟩
 .dsimp only;rw[z.out];exact d6 N.out
 .dsimp only;rw[z.out];exact ab (cd N.out d (.inr (bI N.out I).symm)) B
 dsimp only;rw[D.out];exact ab (cd Z.out d (.inr (bI Z.out u).symm)) q.out.size
theorem fT.grown{w:World}(h:fT w w' g):w.grownBy w' (some g):=by have a:=h.2.2 g (kqa _);exact⟨a.os,a.tape,a.output,by rw[h.1];exact kqa _,λk _ b=>h.2.1 k (λe=>b (by rw[e]))⟩
theorem ak{w:World}{sz:Nat}{e:TypeId}{xs:List Value}(h:w.ownsRow H e sz v n xs)(a:fT w w' g)(b:g<H):w'.ownsRow H e sz v n xs:=cd h a.grown (.inr (bI h b).symm)
def dvB (d:Dv):Dv:=if d.left=0 then dvD d else { d with left:=dec d.left }
theorem oy(A H:Option Addr)(im:List Nat)(dw:List Dw)(b:Int)(q:Bool)(n c m X:Nat)(w:World)(i:im.length=n)(d:dw.length=m)(h0:0<n)(Z:n<=1000000)(Y:m<=1000000)(hlf : -1<=b/\b<=1000000)(s:RdW w w.heap.size A im)(r:RdQ w w.heap.size H dw):
 Calls prog 226 #[.agg #[.slice A n c,.slice H m X,.int .i64 b,.bool q]] w λe a=>(∃v,e=.returned (.tuple #[v,.bool (decide (b≠0))])/\iE a w.heap.size (dvB ⟨im,dw,b,q⟩) v)/\Below w.heap.size w a:=by
 have D:=y5 (λW (h:RdW W W.heap.size A im) (a:RdQ W W.heap.size H dw)=>D8 A H im dw b q n c m X W i d h0 Z Y h a);unfold iE at D;rw[i,d] at D;obtain⟨HR,HQ⟩:=yq0 s r;obtain⟨V,h,F,G,a,k⟩:=gP w A H b q n c m X;obtain⟨X0,X1,B,f,o⟩:=yq3 F G a i d;obtain⟨q0,q1,q2,q3,-,-,-,-,j⟩:=F.c4;have g:w.heap.size<=V.heap.size:=(by omega);have l:w.heap.size+1<V.heap.size:=(by omega);have u:w.heap.size+1≠w.heap.size:=(by omega);clear s r F G a k i d;go_enter func226,ntmps226;go_wp2_with fail;clear h;refine (D.out V (HR.out.up B.out g) (HQ.out.up B.out g)).mono ?_;rintro e w1 ⟨⟨v,rfl,x,z,h,i,rfl,E,d,k⟩,a⟩;obtain⟨s,t,F,G,C⟩:=yq3 d k (X0.out.up a j) (X1.out.up a l) (B.out.trans (a.mono g));clear a d k;by_cases k:b=0
 .subst k;have J:Hid (dvB ⟨im,dw,0,q⟩=⟨im,dw,0,true⟩):=y5 (by unfold dvB dvD;rw[if_pos rfl]);go_wp2_with (first
   | (((with_reducible refine aj 79 (.tmp 1) _ ?_);refine stD F.out ?_;intro U y a);obtain⟨s0,s1,s2,s3,P,Q,R,S,T⟩:=y.out.c4;have M:=y5 (show Bx (U.setCell ⟨w.heap.size,3,none⟩ (.bool true)) w.heap.size 79 #[.slice x n z,.slice h m i,.int .i64 0,.bool true] from y.out.set_ 3 (.bool true));have N:=y5 ((a.out.bx G.out u).far (p:=⟨w.heap.size,3,none⟩) u (.bool true));have e:=y5 ((a.out.below C.out (kqa _)).setCell (p:=⟨w.heap.size,3,none⟩) (kqa _) (.bool true));have K:=y5 (ar (ak s.out a.out j) (bI (ak s.out a.out j) j).symm (p:=⟨w.heap.size,3,none⟩) (.bool true));have L:=y5 (ar (ak t.out a.out j) (bI (ak t.out a.out j) j).symm (p:=⟨w.heap.size,3,none⟩) (.bool true)))
   | ((with_reducible refine av 79 (.tmp 1) ?_);refine ldD M.out ?_)
   | ((with_reducible refine aj 79 (.tmp 2) _ ?_);refine stD N.out ?_;intro w9 r d))
  refine kqq (v:=.tuple #[.agg #[.slice x n z,.slice h m i,.int .i64 0,.bool true],.bool false]) (aF results226 _ r.out rfl rfl rfl) rfl ⟨⟨_,by rw[show decide ((0:Int)≠0)=false from rfl],by rw[J.out];exact⟨x,z,h,i,by rw[f.out,o.out],by rw[f.out];exact E,by rw[f.out];exact ab (ak K.out d.out l) g,by rw[o.out];exact ab (ak L.out d.out l) g⟩⟩,d.out.below e.out (by omega)⟩
 have e0:(b==0)=false:=by rw[kqc];exact k
 have W:decide (b≠0)=true:=by rw[kqh];exact k
 have I:=y5 W;by_cases O:0<b
 .have J:Hid (dvB ⟨im,dw,b,q⟩=⟨im,dw,b-1,q⟩):=y5 (by unfold dvB dec;rw[if_neg k];dsimp only;rw[if_pos O]);have hw1:IntKind.i64.wrap (b-1)=b-1:=kqo _ (by omega);clear k W;go_wp2_with (first
   | (((with_reducible refine aj 79 (.tmp 1) _ ?_);refine stD F.out ?_;intro U y a);obtain⟨s0,s1,s2,s3,P,Q,R,S,T⟩:=y.out.c4;have M:=y5 (show Bx (U.setCell ⟨w.heap.size,2,none⟩ (.int .i64 (b-1))) w.heap.size 79 #[.slice x n z,.slice h m i,.int .i64 (b-1),.bool q] from y.out.set_ 2 (.int .i64 (b-1)));have N:=y5 ((a.out.bx G.out u).far (p:=⟨w.heap.size,2,none⟩) u (.int .i64 (b-1)));have e:=y5 ((a.out.below C.out (kqa _)).setCell (p:=⟨w.heap.size,2,none⟩) (kqa _) (.int .i64 (b-1)));have K:=y5 (ar (ak s.out a.out j) (bI (ak s.out a.out j) j).symm (p:=⟨w.heap.size,2,none⟩) (.int .i64 (b-1)));have L:=y5 (ar (ak t.out a.out j) (bI (ak t.out a.out j) j).symm (p:=⟨w.heap.size,2,none⟩) (.int .i64 (b-1))))
   | ((with_reducible refine av 79 (.tmp 1) ?_);refine ldD M.out ?_)
   | ((with_reducible refine aj 79 (.tmp 2) _ ?_);refine stD N.out ?_;intro w9 r d))
  refine kqq (v:=.tuple #[.agg #[.slice x n z,.slice h m i,.int .i64 (b-1),.bool q],.bool true]) (aF results226 _ r.out rfl rfl rfl) rfl ⟨⟨_,by rw[I.out],by rw[J.out];exact⟨x,z,h,i,by rw[f.out,o.out],by rw[f.out];exact E,by rw[f.out];exact ab (ak K.out d.out l) g,by rw[o.out];exact ab (ak L.out d.out l) g⟩⟩,d.out.below e.out (by omega)⟩
 have J:Hid (dvB ⟨im,dw,b,q⟩=⟨im,dw,b,q⟩):=y5 (by unfold dvB dec;rw[if_neg k];dsimp only;rw[if_neg O]);clear k W;go_wp2_with (first
  | (((with_reducible refine aj 79 (.tmp 1) _ ?_);refine stD F.out ?_;intro U y a);obtain⟨s0,s1,s2,s3,P,Q,R,S,T⟩:=y.out.c4;have M:=y;have N:=y5 (a.out.bx G.out u);have e:=y5 (a.out.below C.out (kqa _));have K:=y5 (ak s.out a.out j);have L:=y5 (ak t.out a.out j))
  | ((with_reducible refine av 79 (.tmp 1) ?_);refine ldD M.out ?_)
  | ((with_reducible refine aj 79 (.tmp 2) _ ?_);refine stD N.out ?_;intro w9 r d))
 refine kqq (v:=.tuple #[.agg #[.slice x n z,.slice h m i,.int .i64 b,.bool q],.bool true]) (aF results226 _ r.out rfl rfl rfl) rfl ⟨⟨_,by rw[I.out],by rw[J.out];exact⟨x,z,h,i,by rw[f.out,o.out],by rw[f.out];exact E,by rw[f.out];exact ab (ak K.out d.out l) g,by rw[o.out];exact ab (ak L.out d.out l) g⟩⟩,d.out.below e.out (by omega)⟩
def FU (d:Dv) (a:Int):Int:=if dZ d=0 then (if 0<=a/\a<(d.im.length:Int) then 0 else 2) else 8
theorem tq(h:dZ d≠0):dZ d=8:=by
 unfold dZ at h |-;split
 .rename_i h1;rw[if_pos h1] at h;exact absurd rfl h
 rfl
theorem Ge(A k:Option Addr)(im:List Nat)(dw:List Dw)(f:Int)(b:Bool)(n c m t:Nat)(a:Int)(w:World)(u:im.length=n)(B:dw.length=m)(y:n<=9223372036854775807)(x:m<=4611686018427387904)(C:RdQ w w.heap.size k dw):
 Calls prog 225 #[.agg #[.slice A n c,.slice k m t,.int .i64 f,.bool b],.int .i64 a] w λe g=>e=.returned (.int .i64 (FU ⟨im,dw,f,b⟩ a))/\Below w.heap.size w g:=by
 have v:=y5 (λW (h:RdQ W W.heap.size k dw)=>kV A k im dw f b n c m t W u B y x h);have p:Hid (FU ⟨im,dw,f,b⟩ a=if dZ ⟨im,dw,f,b⟩=0 then (if 0<=a/\a<(n:Int) then 0 else 2) else 8):=y5 (by unfold FU;rw[<-u]);have q:=y5 (tq (d:=⟨im,dw,f,b⟩));have l:=Bx.new w 79 #[.slice A n c,.slice k m t,.int .i64 f,.bool b];have g:=(kqe w.heap.size w).alloc (kqa _) (.cells #[.slice A n c,.slice k m t,.int .i64 f,.bool b] 79);have z:=y5 C;obtain⟨s,o⟩:=xq (w.alloc (.cells #[.slice A n c,.slice k m t,.int .i64 f,.bool b] 79));rw[o] at l g;obtain⟨i,D⟩:=yq0 g l;obtain⟨q0,q1,q2,q3,-,-,-,-,E⟩:=l.c4;have j:w.heap.size<=s.heap.size:=(by omega);obtain⟨r,h⟩:∃r,dZ ⟨im,dw,f,b⟩=r:=⟨_,rfl⟩;rw[h] at v p q;clear C l g u B h;by_cases u:r=0
 .subst u;rw[if_pos rfl] at p;go_enter func225,ntmps225;go_wp2_with fail;clear o;refine (v.out s (z.out.up i.out j)).mono ?_;rintro e C ⟨rfl,g⟩;have l:=D.out.up g E;have h:=y5 (i.out.trans (g.mono j));obtain⟨p0,-,-,-,-,-,-,-,-⟩:=l.c4;clear g l;by_cases h1:a<0
  .have l:Hid (FU ⟨im,dw,f,b⟩ a=2):=y5 (by rw[p.out,if_neg (by omega)]);go_wp2;go_ret;exact⟨by rw[l.out];rfl,h.out⟩
  by_cases h2:(n:Int)<=a
  .have l:Hid (FU ⟨im,dw,f,b⟩ a=2):=y5 (by rw[p.out,if_neg (by omega)]);go_wp2;go_ret;exact⟨by rw[l.out];rfl,h.out⟩
  have l:Hid (FU ⟨im,dw,f,b⟩ a=0):=y5 (by rw[p.out,if_pos (by omega)]);go_wp2;go_ret;exact⟨by rw[l.out];rfl,h.out⟩
 have B:=q.out u;have l:Hid (FU ⟨im,dw,f,b⟩ a=8):=y5 (by rw[p.out,if_neg u]);subst B;clear u;go_enter func225,ntmps225;go_wp2_with fail;clear o;refine (v.out s (z.out.up i.out j)).mono ?_;rintro e C ⟨rfl,g⟩;have h:=y5 (i.out.trans (g.mono j));clear g;go_wp2;go_ret;exact⟨by rw[l.out];rfl,h.out⟩
def FI (d:Dv) (H:Nat) (e:Ending) (w':World):Prop:=(dZ d=0->∃g c,e=.returned (.tuple #[.slice (some ⟨g,0,none⟩) d.im.length c,.int .i64 0])/\w'.ownsRow H 53 1 (.slice (some ⟨g,0,none⟩) d.im.length c) d.im.length ((dvV d).flatMap ap))/\(dZ d≠0->e=.returned (.tuple #[.slice none 0 0,.int .i64 (dZ d)]))
theorem rF{x:List Nat}(b:k<l.length):iU x (l.take (k+1))=(iU x (l.take k)).set l[k].a.toNat l[k].v:=by unfold iU;rw[kqi b,kva];rfl
theorem qh(A z:Option Addr)(im:List Nat)(dw:List Dw)(q:Int)(j:Bool)(n c m M:Nat)(w:World)(F:im.length=n)(hm:dw.length=m)(Kc:n<=9223372036854775807)(Kb:m<=4611686018427387904)(hi:RdW w w.heap.size A im)(hr:RdQ w w.heap.size z dw):
 Calls prog 81 #[.agg #[.slice A n c,.slice z m M,.int .i64 q,.bool j]] w λe a=>FI ⟨im,dw,q,j⟩ w.heap.size e a/\Below w.heap.size w a:=by
 have P:=y5 (λW (h:RdQ W W.heap.size z dw)=>kV A z im dw q j n c m M W F hm Kc Kb h);have N:=Bx.new w 79 #[.slice A n c,.slice z m M,.int .i64 q,.bool j];have t:=(kqe w.heap.size w).alloc (kqa _) (.cells #[.slice A n c,.slice z m M,.int .i64 q,.bool j] 79);obtain⟨Z,X⟩:=yq0 hr hi;obtain⟨L,E⟩:=xq (w.alloc (.cells #[.slice A n c,.slice z m M,.int .i64 q,.bool j] 79));rw[E] at N t;obtain⟨s,X0⟩:=yq0 t N;obtain⟨q0,q1,q2,q3,-,-,-,-,hg⟩:=N.c4;have v:w.heap.size<=L.heap.size:=(by omega);have I:=y5 F;by_cases y:dZ ⟨im,dw,q,j⟩=0
 .have a:=(cq _).1 (iS y);have d:=(ae _).1 a.1;dsimp only at d;have b:=a.2.2.2.2;dsimp only at b;have J:=y5 (fc b);rw[F] at J;have B:=y5 (λW (h:RdW W W.heap.size A im)=>ra A im c n W.heap.size W F (by omega) (by omega) h (kqa _));unfold OwnW at B;rw[F] at B;obtain⟨C,Eq⟩:=yq0 y (λk hk=>rF (x:=im) (l:=dw) (k:=k) hk);have W:Hid (dvV ⟨im,dw,q,j⟩=iU im (dw.take dw.length)):=y5 (by rw[kzb];rfl);have hn3:n<=2048:=(by omega);rw[y] at P;subst hm;clear hr hi N t F y a d b;go_enter func81,ntmps81;go_wp2_with fail;clear E;refine (P.out L (Z.out.up s.out v)).mono ?_;rintro e G ⟨rfl,f⟩;have a:=X0.out.up f hg;obtain⟨X1,d⟩:=yq0 a (s.out.trans (f.mono v));obtain⟨S,T,-,-,-,-,-,-,Ka⟩:=a.c4;clear f a;go_wp2_with fail;refine (B.out G (yq8 X d)).mono ?_;rintro e w2 ⟨g,R,rfl,a,b⟩;have D:=y5 a;have U:=yq7 d b;have i:=X1.out.up b Ka;obtain⟨-,r1,-,-,-,-,-,-,hg2⟩:=i.c4;have hz2:=b.size;clear a b i S T;go_wp2_with fail;go_loopw [19] (λi wr=>∃k:Nat,k<=dw.length/\i=.int .i64 k/\Hid (wr.ownsRow G.heap.size 53 1 (.slice (some ⟨g,0,none⟩) n R) n ((iU im (dw.take k)).flatMap ap))/\Hid (Below w.heap.size w wr)) (λi _=>dw.length-(intOf i).toNat)
  case atStart=>exact⟨0,kqv _,rfl,D,U⟩
  obtain⟨k,hk,rfl,r,O⟩:=hrel;have hz:=O.out.size;by_cases i:k<dw.length
  .obtain ⟨b,o,rfl,hbb,S,T,p2⟩:=RdQ.at_ (Z.out.below O.out) i;obtain⟨K,Q⟩:=yq0 (Eq.out k i) (J.out _ (kqp i));obtain⟨x,hx⟩:=xq (dw[k]);rw[hx] at S T p2 K Q;obtain⟨xa,H,xf⟩:=x;dsimp only at S T p2 K Q;obtain⟨a,rfl⟩:=kqz (show 0<=xa by have:=Q.out.1;omega);rw[kqf] at K;have ha:(a:Int)<(n:Int):=Q.out.2;have ha0:(0:Int)<=(a:Int):=(by omega);have han:a<n:=(by omega);have hki:(k:Int)<(dw.length:Int):=(by omega);have hk0:(0:Int)<=(k:Int):=(by omega);obtain⟨Y,hY⟩:=xq (iU im (dw.take k));rw[hY] at r K;have hw1g:G.heap.size<=g:=gH r.out;have HN:=y5 (show ((wr.setCell ⟨g,a,none⟩ (.int .u64 (H:Int))).alloc (.cells #[.int .i64 (a:Int),.int .u64 (H:Int),.bool xf] 92)).ownsRow G.heap.size 53 1 (.slice (some ⟨g,0,none⟩) n R) n ((Y.set a H).flatMap ap) by
    rw[kU];exact ((r.out.stored a (.int .u64 (H:Int))).1).alloc _)
   have V:=y5 ((O.out.setCell (p:=⟨g,a,none⟩) (by dsimp only;have:=d.out.size;omega) (.int .u64 (H:Int))).alloc (by rw[kxc];exact hz) (.cells #[.int .i64 (a:Int),.int .u64 (H:Int),.bool xf] 92));have hgw:g<wr.heap.size:=by have:=(r.out.lt g rfl).2;exact this
   obtain⟨u0,hu0⟩:∃u,wr.cell? ⟨g,a,none⟩=some u:=by have hc:=r.out.cellAt a (by omega);have hl:=r.out.1;rw[kqg (by rw[hl];omega)] at hc;exact⟨_,hc⟩
   have hf0:=r.out.frozenAt a;clear hx hY;go_wp2;go_roundw;exact⟨k+1,by omega,by go_num,by rw[K.out];exact HN,V⟩;simp[intOf];omega
  have a:k=dw.length:=(by omega);have D:Hid (wr.ownsRow G.heap.size 53 1 (.slice (some ⟨g,0,none⟩) n R) n ((dvV ⟨im,dw,q,j⟩).flatMap ap)):=y5 (by rw[W.out,<-a];exact r.out);have hend:decide ((k:Int)<(dw.length:Int))=false:=(by rw[kqb];omega);have hendn:decide (k<dw.length)=false:=by rw[kqb];exact i
  clear i hk a;go_wp2;go_ret2;exact⟨⟨λ_=>⟨g,R,by rw[I.out];rfl,by rw[I.out];exact ab D.out d.out.size⟩,λh=>absurd C.out h⟩,O.out⟩
 have C:=y5 y;obtain⟨r,a⟩:∃r,dZ ⟨im,dw,q,j⟩=r:=⟨_,rfl⟩;rw[a] at P y;have b:=y5 a;have e1:(r != 0)=true:=by rw[kqx];exact y
 clear hr hi N t F hm y a;go_enter func81,ntmps81;go_wp2_with fail;clear E;refine (P.out L (Z.out.up s.out v)).mono ?_;rintro e G ⟨rfl,f⟩;have d:=y5 (s.out.trans (f.mono v));clear f;go_wp2;go_ret2;exact⟨⟨λh=>absurd h C.out,λ_=>by rw[b.out];rfl⟩,d.out⟩
theorem Ci(h:fg d=true)(b:0<=a)(c:a<(d.im.length:Int)):FU d a=0:=by unfold FU;rw[if_pos (iY h),if_pos ⟨b,c⟩]
theorem o0(d:Dv):(dvB d).im=d.im/\(dvB d).dw=d.dw:=by unfold dvB dvD;split<;>exact⟨rfl,rfl⟩
theorem rb(h:d.left=0):dvB d=dvD d:=by unfold dvB;rw[if_pos h]
theorem uI(e:k<l.length)(R:List Dw)(f:R=flQ a (l.take k)++l.drop k):R[k]? = some l[k]/\(flB a l[k]=l[k]->flQ a (l.take (k+1))++l.drop (k+1)=R)/\flQ a (l.take (k+1))++l.drop (k+1)=R.set k (flB a l[k])/\R.length=l.length:=by
 have c:(flQ a (l.take k)).length=k:=by unfold flQ;rw[kzw,kq6];omega
 have b:l.drop k=l[k]::l.drop (k+1):=kz8 e;have d:flQ a (l.take (k+1))=flQ a (l.take k)++[flB a l[k]]:=by unfold flQ;rw[kqi e,kjf];rfl
 subst f;refine⟨?_,λh=>?_,?_,?_⟩
 .rw[kxn (by omega),c,kvu,b];rfl
 .rw[d,h,b,kx9];rfl
 .rw[d,b,kvf _ _ (by omega),c,kvu,kx9];rfl
 rw[kqu,c,kz2];omega
theorem zj(A K:Option Addr)(im:List Nat)(dw:List Dw)(t:Int)(z:Bool)(n c m dc a:Nat)(w:World)(f:im.length=n)(k:dw.length=m)(b:fg ⟨im,dw,t,z⟩=true)(ha:a<n)(hm2:m<=1000000)(r:RdW w w.heap.size A im)(s:RdQ w w.heap.size K dw):
 Calls prog 182 #[.agg #[.slice A n c,.slice K m dc,.int .i64 t,.bool z],.int .i64 (a:Int)] w λe d=>(∃v,e=.returned (.tuple #[v,.int .i64 0])/\iE d w.heap.size (dvF ⟨im,dw,t,z⟩ (a:Int)) v)/\Below w.heap.size w d:=by
 have F:=(cq _).1 b;have x:=(ae _).1 F.1;dsimp only at x;have D : -1<=t/\t<=1000000:=⟨F.2.1,F.2.2.1⟩;have d:=F.2.2.2.2;dsimp only at d;have Z:=y5 (fc d);rw[f] at Z;have X:=y5 (λW (h:RdQ W W.heap.size K dw)=>Ge A K im dw t z n c m dc (a:Int) W f k (by omega) (by omega) h);rw[Ci b (by omega) (by dsimp only;omega)] at X;have B:=y5 (λW (h:RdW W W.heap.size A im) (E:RdQ W W.heap.size K dw)=>oy A K im dw t z n c m dc W f k (by omega) (by omega) (by omega) D h E);unfold iE at B;rw[(o0 _).1,(o0 _).2] at B;dsimp only at B;rw[f,k] at B;obtain⟨HR,HQ⟩:=yq0 r s;obtain⟨W0,o,g,y,j,q⟩:=gP w A K t z n c m dc;obtain⟨X0,X1,W,u,i⟩:=yq3 g y j f k;obtain⟨G,H,J,L,-,-,-,-,hg⟩:=g.c4;have Kf:w.heap.size<=W0.heap.size:=(by omega);have Km:w.heap.size+1<W0.heap.size:=(by omega);have Kd:w.heap.size+1≠w.heap.size:=(by omega);have hn3:n<=2048:=(by omega);clear r s g y j q f k F x d b;go_enter func182,ntmps182;go_wp2_with fail;clear o;refine (X.out W0 (HQ.out.up W.out Kf)).mono ?_;rintro e I ⟨rfl,b⟩;have g:=X0.out.up b hg;have f:=y5 (W.out.trans (b.mono Kf));have hz1:=b.size;obtain⟨T,U,V,s,-,-,-,-,C⟩:=g.c4;obtain⟨Y0,Y1⟩:=yq0 g (X1.out.up b Km);have j:w.heap.size+1<I.heap.size:=(by omega);clear g b G H J L;go_wp2_with fail;refine (B.out I (yq8 HR f) (yq8 HQ f)).mono ?_;rintro e w2 ⟨⟨v,rfl,J,S,r,q,rfl,Kb,d,k⟩,b⟩;obtain⟨o,x,H,M⟩:=yq2 d k (Y0.out.up b C) (Y1.out.up b j);have g:=yq7 f b;have N:=b.size;clear b d k T U V s;by_cases d:t=0
 .subst d;have HV:Hid (dvF ⟨im,dw,0,z⟩ (a:Int)=⟨im,dw,0,true⟩):=y5 (by unfold dvF dvD;rw[if_pos rfl]);rw[rb rfl,show decide ((0:Int)≠0)=false from rfl];unfold dvD;dsimp only;go_wp2_with (first
   | ((with_reducible refine aj 79 (.tmp 2) _ ?_);refine stD H.out ?_;intro P e b)
   | ((with_reducible refine av 79 (.tmp 2) ?_);refine ldD e.out ?_)
   | ((with_reducible refine aj 79 (.tmp 4) _ ?_);refine stD (b.out.bx M.out Kd) ?_;intro w9 L s))
  refine kqq (v:=.tuple #[.agg #[.slice J n S,.slice r m q,.int .i64 0,.bool true],.int .i64 0]) (aF results182 _ L.out rfl rfl rfl) rfl ⟨⟨_,rfl,by
   rw[HV.out];exact⟨J,S,r,q,by rw[u.out,i.out],by rw[u.out];exact Kb,by rw[u.out];exact ab (ak (ak o.out b.out C) s.out j) f.out.size,by rw[i.out];exact ab (ak (ak x.out b.out C) s.out j) f.out.size⟩⟩,s.out.below (b.out.below g.out (kqa _)) (by omega)⟩
 have O:decide (t≠0)=true:=by rw[kqh];exact d
 have HV:Hid (dvF ⟨im,dw,t,z⟩ (a:Int)=⟨im,flQ (a:Int) dw,dec t,z⟩):=y5 (by unfold dvF;rw[if_neg d]);have G:dvB ⟨im,dw,t,z⟩=⟨im,dw,dec t,z⟩:=by unfold dvB;rw[if_neg d]
 rw[O,G];dsimp only;obtain⟨l2,y⟩:=xq (dec t);rw[y] at HV |-;subst i;have Ki:=y5 (λk (F:k<dw.length) R i=>uI (a:=(a:Int)) (l:=dw) (k:=k) F R i);have Kh:Hid (flQ (a:Int) dw=flQ (a:Int) (dw.take dw.length)++dw.drop dw.length):=y5 (by rw[kzb,kj2,kzf]);have Y:Hid ((flQ (a:Int) dw).length=dw.length):=y5 (by unfold flQ;rw[kzw]);clear y G O d D;go_wp2_with (first
  | (((with_reducible refine aj 79 (.tmp 2) _ ?_);refine stD H.out ?_;intro P e b);obtain⟨s0,s1,s2,s3,sf0,sf1,sf2,sf3,slt⟩:=e.out.c4))
 have hw3:w.heap.size<P.heap.size:=e.out.lt;obtain⟨U1,Kj,Kk,Kg⟩:=yq2 (b.out.bx M.out Kd) (ak o.out b.out C) (ak x.out b.out C) (b.out.below g.out (kqa _));clear o x g H M b N;go_loopw [28] (λi wr=>∃(k:Nat) (R:List Dw),k<=dw.length/\i=.int .i64 k/\Hid (R=flQ (a:Int) (dw.take k)++dw.drop k)/\Hid (Bx wr w.heap.size 79 #[.slice J n S,.slice r dw.length q,.int .i64 l2,.bool z])/\Hid (Bx wr (w.heap.size+1) 79 #[.slice none 0 0,.slice none 0 0,.int .i64 0,.bool false])/\Hid (wr.ownsRow I.heap.size 53 1 (.slice J n S) n (im.flatMap ap))/\Hid (wr.ownsRow I.heap.size 92 3 (.slice r dw.length q) dw.length (R.flatMap Dw.cells))/\Hid (Below w.heap.size w wr)) (λi _=>dw.length-(intOf i).toNat)
 case atStart=>exact⟨0,dw,kqv _,rfl,y5 rfl,e,U1,Kj,Kk,Kg⟩
 obtain⟨k,R,F,rfl,Eq,V0,V1,VO,H,VB⟩:=hrel;have hz:=VB.out.size;obtain⟨v0,v1,v2,v3,-,-,-,-,hgw⟩:=V0.out.c4;by_cases D:k<dw.length
 .obtain ⟨g,c9,G⟩:=fa H.out (by omega);obtain⟨rfl,-,rfl⟩:r=some ⟨g,0,none⟩/\dw.length=dw.length/\q=c9:=by injection G with h1 E h3;exact⟨h1,E,h3⟩
  obtain⟨N,P,Q,y4⟩:=Ki.out k D R Eq.out;have y:k<R.length:=by rw[y4];exact D
  obtain⟨b,o,M,hbb,T,U,V⟩:=RdQ.at_ (show RdQ wr wr.heap.size (some ⟨g,0,none⟩) R from Rd.of_own H.out) y;obtain⟨rfl,rfl⟩:g=b/\0=o:=by injection M with M;injection M with h1 E h3;exact⟨h1,E⟩
  rw[kxg] at T U V;rw[kqg y,Option.some.injEq] at N;rw[N] at T U V;obtain⟨HM,Y2,Y3,Ka⟩:=yq2 (Z.out _ (kqp D)) P Q (show R[k]? = some dw[k] by rw[kqg y,N]);obtain⟨x,O⟩:=xq (dw[k]);rw[O] at T U V HM Y2 Y3 Ka;obtain⟨xa,e,i⟩:=x;dsimp only at T U V HM;obtain⟨d,rfl⟩:=kqz (show 0<=xa by have:=HM.out.1;omega);have hxn:d<2048:=by have:=HM.out.2;omega
  have hki:(k:Int)<(dw.length:Int):=(by omega);have hk0:(0:Int)<=(k:Int):=(by omega);have hgb:I.heap.size<=g:=gH H.out;have Kl:w.heap.size≠g:=(by omega);have Ke:w.heap.size+1≠g:=(by omega);have Kc:((d:Int)/8==(a:Int)/8)=decide (d/8=a/8):=by rw[kzk,kqw,kqh];omega
  clear O G M N P Q y4 y;by_cases G:d/8=a/8
  .have M:Hid (flB (a:Int) ⟨(d:Int),e,i⟩=⟨(d:Int),e,true⟩):=y5 (by unfold flB;rw[if_pos (show (d:Int)/8=(a:Int)/8 by omega)]);rw[decide_eq_true G] at Kc;have hf2:=H.out.frozenAt (k*3+2);have Q:=y5 (show ((wr.setCell ⟨g,k*3+2,none⟩ (.bool true)).alloc (.cells #[.int .i64 (d:Int),.int .u64 (e:Int),.bool i] 92)).ownsRow I.heap.size 92 3 (.slice (some ⟨g,0,none⟩) dw.length q) dw.length ((R.set k ⟨(d:Int),e,true⟩).flatMap Dw.cells) by
    rw[eN Dw.cells 3 Dw.len R k 2 (by omega) ⟨(d:Int),e,true⟩ (.bool true) (λy y=>by rw[Ka.out] at y;cases y;rfl)];exact ((H.out.stored (k*3+2) (.bool true)).1).alloc _)
   have P:=y5 ((ar VO.out (p:=⟨g,k*3+2,none⟩) (show (Value.slice J n S).ownBlock≠some g from λh=>by
    rcases gR VO.out H.out (by decide) with E|E
    .rw[h] at E;cases E
    exact E h) (.bool true)).alloc (.cells #[.int .i64 (d:Int),.int .u64 (e:Int),.bool i] 92))
   obtain⟨y,N,O⟩:=yq1 ((V0.out.far (p:=⟨g,k*3+2,none⟩) Kl (.bool true)).alloc (.cells #[.int .i64 (d:Int),.int .u64 (e:Int),.bool i] 92)) ((V1.out.far (p:=⟨g,k*3+2,none⟩) Ke (.bool true)).alloc (.cells #[.int .i64 (d:Int),.int .u64 (e:Int),.bool i] 92)) ((VB.out.setCell (p:=⟨g,k*3+2,none⟩) (by dsimp only;omega) (.bool true)).alloc (by rw[kxc];exact hz) (.cells #[.int .i64 (d:Int),.int .u64 (e:Int),.bool i] 92));have HN:Hid (R.set k ⟨(d:Int),e,true⟩=flQ (a:Int) (dw.take (k+1))++dw.drop (k+1)):=y5 (by rw[Y3.out,M.out]);clear G;go_wp2;go_roundw;exact⟨k+1,R.set k ⟨(d:Int),e,true⟩,by omega,by go_num,HN,y,N,P,Q,O⟩;simp[intOf];omega
  have M:Hid (flB (a:Int) ⟨(d:Int),e,i⟩=⟨(d:Int),e,i⟩):=y5 (by unfold flB;rw[if_neg (show ¬ (d:Int)/8=(a:Int)/8 by omega)]);rw[decide_eq_false G] at Kc;obtain⟨Q,P,y,N,O⟩:=yq3 (H.out.alloc (.cells #[.int .i64 (d:Int),.int .u64 (e:Int),.bool i] 92)) (VO.out.alloc (.cells #[.int .i64 (d:Int),.int .u64 (e:Int),.bool i] 92)) (V0.out.alloc (.cells #[.int .i64 (d:Int),.int .u64 (e:Int),.bool i] 92)) (V1.out.alloc (.cells #[.int .i64 (d:Int),.int .u64 (e:Int),.bool i] 92)) (VB.out.alloc hz (.cells #[.int .i64 (d:Int),.int .u64 (e:Int),.bool i] 92));have HN:Hid (R=flQ (a:Int) (dw.take (k+1))++dw.drop (k+1)):=y5 (Y2.out M.out).symm;clear G;go_wp2;go_roundw;exact⟨k+1,R,by omega,by go_num,HN,y,N,P,Q,O⟩;simp[intOf];omega
 have b:k=dw.length:=(by omega);have d:Hid (wr.ownsRow I.heap.size 92 3 (.slice r dw.length q) dw.length ((flQ (a:Int) dw).flatMap Dw.cells)):=y5 (by
  have h:=H.out;rw[Eq.out,b,<-Kh.out] at h;exact h)
 have hend:decide ((k:Int)<(dw.length:Int))=false:=(by rw[kqb];omega);have hendn:decide (k<dw.length)=false:=by rw[kqb];exact D
 clear D F b;go_wp2_with (first
  | ((with_reducible refine av 79 (.tmp 2) ?_);refine ldD V0.out ?_)
  | ((with_reducible refine aj 79 (.tmp 4) _ ?_);refine stD V1.out ?_;intro w9 L s))
 have hgw1:w.heap.size+1<I.heap.size:=j;refine kqq (v:=.tuple #[.agg #[.slice J n S,.slice r dw.length q,.int .i64 l2,.bool z],.int .i64 0]) (aF results182 _ L.out rfl rfl rfl) rfl ⟨⟨_,rfl,by
  rw[HV.out];exact⟨J,S,r,q,by rw[u.out,Y.out],by rw[u.out];exact Kb,by rw[u.out];exact ab (ak VO.out s.out j) f.out.size,by rw[Y.out];exact ab (ak d.out s.out j) f.out.size⟩⟩,s.out.below VB.out (by omega)⟩
end Go.Proofs.YtpcajamacpbjcaaGreat
