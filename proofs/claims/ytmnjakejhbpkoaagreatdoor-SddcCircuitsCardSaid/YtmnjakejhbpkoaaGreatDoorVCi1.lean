import Derived.Test.YtmnjakejhbpkoaaGreatDoorVThy2
set_option linter.unusedSimpArgs false
set_option linter.unusedVariables false
set_option maxRecDepth 100000
set_option maxHeartbeats 2000000
section
namespace Go.Proofs.YtmnjakejhbpkoaaGreatDoor.L
structure Gt where
 kind:Int
 lit:Int
 inp:List Int
def gAllow(k:Int)(n:Nat):Bool :=
 if k=0∨k=1∨k=2 then decide (n=0) else if k=3 then decide (n=1) else if k=7 then decide (n=2) else if k=8 then decide (n=3) else decide (k=4∨k=5∨k=6)
def gLit(N:Int)(g:Gt):Bool:=if g.kind=2 then validB N g.lit else decide (g.lit=0)
def gOk (N:Int)(i:Nat)(g:Gt):Bool:=gAllow g.kind g.inp.length && (gLit N g && g.inp.all fun k=>decide (0≤k) && decide (k<i))
def ciSize(C:List Gt):Nat:=(C.map fun g=>g.inp.length).sum
def Zhi (N:Int):Nat→List Gt→Bool
 | _,[]=>true
 | i,g :: r=>gOk N i g && Zhi N (i+1) r
def ciChk(N:Int)(C:List Gt):Int:=if N<0∨128<N then 6 else if 4096<C.length∨65536<ciSize C then 2 else if C=[] then 1 else if Zhi N 0 C=true then 0 else 1
theorem Zdt{N:Int}:∀ {C:List Gt}{i:Nat},Zhi N i C=true↔∀j (hj:j<C.length),gOk N (i+j) C[j]=true
 | [],i=>⟨fun _ j hj=>absurd hj (Nat.not_lt_zero _),fun _=>rfl⟩
 | g :: r,i=>by
   rw[Zhi,Zpx,Zdt]
   constructor
   ·rintro⟨h1,h2⟩ j hj
    cases j with
    | zero=>exact h1
    | succ j=>rw[List.getElem_cons_succ,show i+(j+1)=i+1+j by omega];exact h2 j (by simpa using hj)
   ·intro h
    refine⟨h 0 (by simp),fun j hj=>?_⟩;have:=h (j+1) (by simpa using hj);rw[List.getElem_cons_succ,show i+(j+1)=i+1+j by omega]at this;exact this
theorem ciChk_ok{N:Int}{C:List Gt}:ciChk N C=0↔(0≤N∧N≤128)∧C.length≤4096∧ciSize C≤65536∧C≠[]∧∀j (hj:j<C.length),gOk N j C[j]=true:=by
 unfold ciChk
 by_cases h:N<0∨128<N
 ·rw[if_pos h];exact⟨fun e=>(by cases e),fun e=>by omega⟩
 ·rw[if_neg h]
  by_cases h2:4096<C.length∨65536<ciSize C
  ·rw[if_pos h2];exact⟨fun e=>(by cases e),fun e=>by omega⟩
  ·rw[if_neg h2]
   by_cases h3:C=[]
   ·rw[if_pos h3];exact⟨fun e=>(by cases e),fun e=>absurd h3 e.2.2.2.1⟩
   ·rw[if_neg h3]
    by_cases h4:Zhi N 0 C=true
    ·rw[if_pos h4]
     have:=Zdt.1 h4;simp only[Nat.zero_add]at this;exact⟨fun _=>⟨by omega,by omega,by omega,h3,this⟩,fun _=>rfl⟩
    ·rw[if_neg h4]
     refine⟨fun e=>(by cases e),fun e=>absurd (Zdt.2 ?_) h4⟩;simpa only[Nat.zero_add] using e.2.2.2.2
theorem ciChk_bad{N:Int}{C:List Gt}(h0:0≤N∧N≤128)(h1:C.length≤4096)(h2:ciSize C≤65536){j:Nat}(hj:j<C.length)(hb:gOk N j C[j]=false):ciChk N C=1:=by
 unfold ciChk;rw[if_neg (by omega),if_neg (by omega),if_neg (fun e=>by subst e;simp at hj),if_neg (fun e=>?_)];have:=Zdt.1 e j hj;rw[Nat.zero_add,hb]at this
 cases this
theorem ciSize_take{C:List Gt}{k:Nat}(hk:k<C.length):ciSize (C.take (k+1))=ciSize (C.take k)+C[k].inp.length:=by
 unfold ciSize;rw[List.take_succ_eq_append_getElem hk,List.map_append,List.sum_append];simp
theorem ciSize_le{C:List Gt}{m:Nat}(h:∀g∈C,g.inp.length≤m):ciSize C≤m*C.length:=by
 induction C with
 | nil=>simp[ciSize]
 | cons g r ih =>
   have h1:=h g (Zpy ..);have h2:=ih fun x hx=>h x (Zpn _ hx)
   unfold ciSize at *;rw[List.map_cons,List.sum_cons,ZpC,Nat.mul_succ];omega
def gVars(s:Zak)(g:Gt):Zak:=if g.kind=2 then ZaA s (g.lit.natAbs:Int) else s
def ciVars(C:List Gt):Zak:=C.foldl gVars 0
theorem ciVars_take{C:List Gt}{k:Nat}(hk:k<C.length):ciVars (C.take (k+1))=gVars (ciVars (C.take k)) C[k]:=by
 unfold ciVars;rw[List.take_succ_eq_append_getElem hk,List.foldl_append]
 rfl
theorem ZeS(v:Int):∀(C:List Gt) (s:Zak),Zau (C.foldl gVars s) v=true↔Zau s v=true∨∃g∈C,g.kind=2∧(g.lit.natAbs:Int)=v∧1≤v∧v≤128
 | [],s=>⟨fun h=>.inl h,fun h=>h.elim id (fun ⟨_,h,_⟩=>by cases h)⟩
 | g :: r,s=>by
   rw[List.foldl_cons,ZeS v r (gVars s g)];unfold gVars;simp only[List.mem_cons]
   by_cases hk:g.kind=2
   ·rw[if_pos hk,hasS_with,Bool.or_eq_true]
    simp only[Zpx,ZpA]
    constructor
    ·rintro((h|⟨⟨h1,h2⟩,h3⟩)|⟨d,hd,h⟩)
     ·exact .inl h
     ·exact .inr ⟨g,.inl rfl,hk,h1,h2,h3⟩
     ·exact .inr ⟨d,.inr hd,h⟩
    ·rintro(h|⟨d,rfl|hd,h⟩)
     ·exact .inl (.inl h)
     ·exact .inl (.inr ⟨⟨h.2.1,h.2.2.1⟩,h.2.2.2⟩)
     ·exact .inr ⟨d,hd,h⟩
   ·rw[if_neg hk]
    constructor
    ·rintro(h|⟨d,hd,h⟩)
     ·exact .inl h
     ·exact .inr ⟨d,.inr hd,h⟩
    ·rintro(h|⟨d,rfl|hd,h⟩)
     ·exact .inl h
     ·exact absurd h.1 hk
     ·exact .inr ⟨d,hd,h⟩
theorem hasS_ciVars(C:List Gt)(v:Int):Zau (ciVars C) v=true↔∃g∈C,g.kind=2∧(g.lit.natAbs:Int)=v∧1≤v∧v≤128:=by
 unfold ciVars;rw[ZeS,hasS_zero];exact⟨fun h=>h.elim (fun h=>by cases h) id,.inr⟩
def gVal(g:Gt)(b:List Bool)(x:Asg):Bool :=
 if g.kind=1 then true
 else if g.kind=2 then liφ g.lit x
 else if g.kind=3 then !(b.getD 0 false)
 else if g.kind=4 then b.all id
 else if g.kind=5 then b.any id
 else if g.kind=6 then b.foldl (fun o y=>o !=y) false
 else if g.kind=7 then b.getD 0 false ==b.getD 1 false
 else if g.kind=8 then (b.getD 0 false && b.getD 1 false) || (!(b.getD 0 false) && b.getD 2 false)
 else false
def gIns(g:Gt)(v:List Bool):List Bool:=g.inp.map fun k=>v.getD k.toNat false
def ciVals(C:List Gt)(x:Asg):List Bool:=C.foldl (fun v g=>v++[gVal g (gIns g v) x]) []
theorem ciVals_snoc(C:List Gt)(g:Gt)(x:Asg):ciVals (C++[g]) x=ciVals C x++[gVal g (gIns g (ciVals C x)) x]:=by
 unfold ciVals;rw[List.foldl_append]
 rfl
theorem ciVals_len(C:List Gt)(x:Asg):(ciVals C x).length=C.length:=by
 suffices h:∀(C:List Gt) (v:List Bool),(C.foldl (fun v g=>v++[gVal g (gIns g v) x]) v).length=v.length+C.length by
  have:=h C [];simpa [ciVals] using this
 intro C
 induction C with
 | nil=>intro v;simp
 | cons g r ih=>intro v;rw[List.foldl_cons,ih];simp;omega
theorem ZhL{C:List Gt}(x:Asg){k m:Nat}(hk:k<m)(hm:m≤C.length):(ciVals (C.take m) x).getD k false=(ciVals (C.take (k+1)) x).getD k false:=by
 induction m with
 | zero=>omega
 | succ m ih =>
   by_cases e:k=m
   ·subst e;rfl
   ·rw[←ih (by omega) (by omega),List.take_succ_eq_append_getElem (by omega),ciVals_snoc,Zpt,List.getElem?_append_left (by rw[ciVals_len,List.length_take];omega),←Zpt]
def gφ (C:List Gt)(i:Nat):Asg→Bool:=fun x=>(ciVals (C.take (i+1)) x).getD i false
theorem gφ_eq{C:List Gt}{i:Nat}(hi:i<C.length)(x:Asg):gφ C i x=gVal C[i] (gIns C[i] (ciVals (C.take i) x)) x:=by
 unfold gφ;rw[List.take_succ_eq_append_getElem hi,ciVals_snoc,Zpt,List.getElem?_append_right (by rw[ciVals_len,List.length_take];omega),ciVals_len,List.length_take,show i - min i C.length=0 by omega]
 rfl
theorem gIns_eq{C:List Gt}{i:Nat}{g:Gt}(hi:i≤C.length)(hg:∀k∈g.inp,0≤k∧k<i)(x:Asg):gIns g (ciVals (C.take i) x)=g.inp.map fun k=>gφ C k.toNat x:=by
 unfold gIns;refine List.map_congr_left fun k hk=>?_
 obtain⟨h0,h1⟩:=hg k hk;unfold gφ;exact ZhL x (by omega) hi
def ciφ (C:List Gt):Asg→Bool:=gφ C (C.length - 1)
theorem ciφ_last{C:List Gt}(x:Asg):ciφ C x=(ciVals C x).getD (C.length - 1) false:=by
 unfold ciφ gφ
 cases C with
 | nil=>rfl
 | cons g r=>rw[show (g :: r).length - 1+1=(g :: r).length by simp,List.take_length]
theorem Zmg{g:Gt}{b:List Bool}{x y:Asg}(h:g.kind=2→x (g.lit.natAbs:Int)=y (g.lit.natAbs:Int)):gVal g b x=gVal g b y:=by
 unfold gVal
 by_cases h1:g.kind=1
 ·rw[if_pos h1,if_pos h1]
 ·rw[if_neg h1,if_neg h1]
  by_cases h2:g.kind=2
  ·rw[if_pos h2,if_pos h2];unfold liφ;rw[h h2]
  ·rw[if_neg h2,if_neg h2]
theorem Zjg{x y:Asg}:∀ {C:List Gt},(∀g∈C,g.kind=2→x (g.lit.natAbs:Int)=y (g.lit.natAbs:Int))→ciVals C x=ciVals C y:=by
 intro C
 suffices h:∀(v:List Bool),(∀g∈C,g.kind=2→x (g.lit.natAbs:Int)=y (g.lit.natAbs:Int))→C.foldl (fun v g=>v++[gVal g (gIns g v) x]) v=C.foldl (fun v g=>v++[gVal g (gIns g v) y]) v from h []
 induction C with
 | nil=>intro v _;rfl
 | cons g r ih =>
   intro v h;rw[List.foldl_cons,List.foldl_cons,Zmg (h g (Zpy ..)),ih _ fun a ha=>h a (Zpn _ ha)]
theorem ciφ_dep{C:List Gt}{x y:Asg}(h:∀g∈C,g.kind=2→x (g.lit.natAbs:Int)=y (g.lit.natAbs:Int)):ciφ C x=ciφ C y:=by
 rw[ciφ_last,ciφ_last,Zjg h]
end Go.Proofs.YtmnjakejhbpkoaaGreatDoor.L
end
section
namespace Go.Proofs.YtmnjakejhbpkoaaGreatDoor
open Go Go.RowKit Go.Shelf
theorem Zgf{fm:Nat}{q:Value}(ti:∀(c:Array Value) (w:World),(callFunc fm c).run Tryz.prog w= .ok (.enter fm c) w)(I:World→Prop){p:Int→Bool}{l:List Int}{v:Value}{w:World}(hv:∀W,I W→SlI W v l)(hl:l.length≤9223372036854775807)(h0:I w)
  (hc:∀(j:Nat) (hj:j<l.length) (W:World),I W→Calls Tryz.prog fm #[.int .i64 l[j],q] W fun e W'=>e= .returned (.bool (p l[j]))∧I W') :
  Calls Tryz.prog 192 #[v,.func (.func fm) #[] #[q]] w fun e w'=>∃z:Int,e= .returned (.int .i64 z)∧decide (0≤z)=l.any p∧I w':=by
 obtain⟨ba,cp,rfl,_⟩:=hv w h0
 have aT:∀W,I W→∀j (hj:j<l.length),∃b o,ba=some ⟨b,o,none⟩∧W.cell? ⟨b,o+j,none⟩=some (.int .i64 l[j]):=fun W hI j hj=>by
  obtain⟨lY,kU,e,h⟩:=hv W hI
  cases e
  rcases h with ⟨_,rfl,_⟩|⟨b,o,h1,h2⟩
  ·simp at hj
  ·exact⟨b,o,h1,h2 j hj⟩
 replace aT:=Zpe aT;replace hc:=Zpe hc;replace h0:=Zpe h0;clear hv
 go_enter Tryz.func192,Tryz.ntmps192
 go_wp2_with fail
 go_loopw [5,8] (fun _ i wr=>∃k:Nat,k≤l.length∧i= .int .i64 k∧I wr∧∀j (hj:j<l.length),j<k→p l[j]=false) (fun _ i _=>l.length - (intOf i).toNat)
 case atStart=>exact⟨0,Nat.zero_le _,rfl,h0.out,fun j _ h=>absurd h (Nat.not_lt_zero _)⟩
 case round =>
  obtain⟨k,hk,rfl,hI,bJ⟩:=hrel
  by_cases aE:k<l.length
  ·obtain⟨b,o,rfl,f1⟩:=aT.out wr hI k aE
   have q1:=hc.out k aE wr hI;have oZ:p l[k]=true→l.any p=true:=fun h=>List.any_eq_true.2 ⟨_,Zpz aE,h⟩
   have aM:p l[k]=false→∀j (hj:j<l.length),j<k+1→p l[j]=false:=fun h j hj nR=>by
    by_cases e:j=k
    ·subst e;exact h
    ·exact bJ j hj (by omega)
   generalize l[k]=x at *;replace hI:=Zpe hI;replace bJ:=Zpe bJ;replace aM:=Zpe aM;replace oZ:=Zpe oZ
   cases hp:p x
   ·rw[hp]at q1
    go_wp2_with fail;refine q1.mono ?_;rintro e w2 ⟨rfl,i7⟩;have dW:=aM.out hp;replace i7:=Zpe i7;replace dW:=Zpe dW;clear q1;go_wp2_with fail;go_roundw
    case rel=>exact⟨k+1,by omega,by go_num,i7.out,dW.out⟩
    case measure=>simp[intOf];omega
   ·rw[hp]at q1
    go_wp2_with fail;refine q1.mono ?_;rintro e w2 ⟨rfl,i7⟩;replace i7:=Zpe i7;clear q1;go_wp2_with fail;go_ret;exact⟨k,rfl,by rw[oZ.out hp];exact Zpv (by omega),i7.out⟩
  ·obtain rfl:k=l.length:=by omega
   have hf:l.any p=false:=by
    rw[List.any_eq_false];intro x hx;obtain⟨j,hj,rfl⟩:=List.getElem_of_mem hx;simp[bJ j hj hj]
   replace hI:=Zpe hI;replace bJ:=Zpe bJ;replace hf:=Zpe hf;go_wp2_with fail;go_ret;exact⟨-1,rfl,by rw[hf.out];rfl,hI.out⟩
theorem Zeg{fm:Nat}{q:Value}(ti:∀(c:Array Value) (w:World),(callFunc fm c).run Tryz.prog w= .ok (.enter fm c) w)(I:World→Prop){p:Int→Bool}{l:List Int}{v:Value}{w:World}(hv:∀W,I W→SlI W v l)(hl:l.length≤9223372036854775807)(h0:I w)
  (hc:∀(j:Nat) (hj:j<l.length) (W:World),I W→Calls Tryz.prog fm #[.int .i64 l[j],q] W fun e W'=>e= .returned (.bool (p l[j]))∧I W') :
  Calls Tryz.prog 140 #[v,.func (.func fm) #[] #[q]] w fun e w'=>e= .returned (.bool (l.any p))∧I w':=by
 have q1:=Zgf ti I hv hl h0 hc;obtain⟨ba,cp,rfl,_⟩:=hv w h0;replace hv:=Zpe hv;replace hc:=Zpe hc;replace h0:=Zpe h0;generalize l.any p=B at *
 go_enter Tryz.func140,Tryz.ntmps140
 go_wp2_with fail;refine q1.mono ?_;rintro e w2 ⟨z,rfl,hz,hI⟩;have bE:decide (z≥0)=B:=hz;replace hI:=Zpe hI;clear q1;go_wp2_with fail;go_ret;exact⟨by first|rfl|(rw[←hz] <;> rfl),hI.out⟩
def SlC (w:World)(v:Value)(C:List L.Gt):Prop :=
 ∃ba c,v= .slice ba C.length c∧(C=[]∨∃b o,ba=some ⟨b,o,none⟩∧∀j (hj:j<C.length),w.cell? ⟨b,o+j*3,none⟩=some (.int .i64 C[j].kind)∧w.cell? ⟨b,o+j*3+1,none⟩=some (.int .i64 C[j].lit)∧∃u,w.cell? ⟨b,o+j*3+2,none⟩=some u∧SlI w u C[j].inp)
theorem SlC.ext{w w':World}{v:Value}{C:List L.Gt}(h:SlC w v C)(hb:Below w.heap.size w w'):SlC w' v C:=by
 obtain⟨ba,c,rfl,h⟩:=h;refine⟨ba,c,rfl,h.imp id ?_⟩;rintro⟨b,o,rfl,hc⟩
 exact⟨b,o,rfl,fun j hj=>by
  obtain⟨h1,h2,u,h3,h4⟩:=hc j hj;exact⟨(hb.cell (Zpk w _ h1)).trans h1,(hb.cell (Zpk w _ h2)).trans h2,u,(hb.cell (Zpk w _ h3)).trans h3,h4.ext hb⟩⟩
theorem SlC.shape{w:World}{v:Value}{C:List L.Gt}(h:SlC w v C):∃ba c,v= .slice ba C.length c∧∀j (hj:j<C.length),∃b o bb cc,ba=some ⟨b,o,none⟩∧w.cell? ⟨b,o+j*3,none⟩=some (.int .i64 C[j].kind)∧w.cell? ⟨b,o+j*3+1,none⟩=some (.int .i64 C[j].lit)∧w.cell? ⟨b,o+j*3+2,none⟩=some (.slice bb C[j].inp.length cc)∧SlI w (.slice bb C[j].inp.length cc) C[j].inp:=by
 obtain⟨ba,c,rfl,h⟩:=h;refine⟨ba,c,rfl,fun j hj=>?_⟩;rcases h with rfl|⟨b,o,rfl,h⟩
 ·simp at hj
 ·obtain⟨h1,h2,u,h3,h4⟩:=h j hj
  obtain⟨bb,cc,e,_⟩:=id h4;subst e;exact⟨b,o,bb,cc,rfl,h1,h2,h3,h4⟩
theorem Zjz{k:Int}{n:Nat}(w:World):Calls Tryz.prog 207 #[.int .i64 k,.int .i64 (n:Nat)] w fun e w'=>e= .returned (.bool (L.gAllow k n))∧w=w':=by
 have fin:∀m:Nat,((n:Int) ==(m:Int))=decide (n=m):=fun m=>by
  rw[Bool.eq_iff_iff,beq_iff_eq,ZpA];omega
 have f0:=Zpe (fin 0);have f1:=Zpe (fin 1);have f2:=Zpe (fin 2);have f3:=Zpe (fin 3);clear fin
 by_cases h0:k=0
 ·subst h0
  go_enter Tryz.func207,Tryz.ntmps207
  go_wp2_with fail;go_ret;exact⟨congrArg (fun b=>Ending.returned (.bool b)) f0.out,rfl⟩
 by_cases h1:k=1
 ·subst h1
  go_enter Tryz.func207,Tryz.ntmps207
  go_wp2_with fail;go_ret;exact⟨congrArg (fun b=>Ending.returned (.bool b)) f0.out,rfl⟩
 by_cases h2:k=2
 ·subst h2
  go_enter Tryz.func207,Tryz.ntmps207
  go_wp2_with fail;go_ret;exact⟨congrArg (fun b=>Ending.returned (.bool b)) f0.out,rfl⟩
 by_cases h3:k=3
 ·subst h3
  go_enter Tryz.func207,Tryz.ntmps207
  go_wp2_with fail;go_ret;exact⟨congrArg (fun b=>Ending.returned (.bool b)) f1.out,rfl⟩
 by_cases h7:k=7
 ·subst h7
  go_enter Tryz.func207,Tryz.ntmps207
  go_wp2_with fail;go_ret;exact⟨congrArg (fun b=>Ending.returned (.bool b)) f2.out,rfl⟩
 by_cases h8:k=8
 ·subst h8
  go_enter Tryz.func207,Tryz.ntmps207
  go_wp2_with fail;go_ret;exact⟨congrArg (fun b=>Ending.returned (.bool b)) f3.out,rfl⟩
 have hr:Hid (L.gAllow k n=((k ==4) || (k ==5) || (k ==6))):=Zpe (by
  unfold L.gAllow;rw[if_neg (by omega),if_neg h3,if_neg h7,if_neg h8,Bool.eq_iff_iff];simp[or_assoc])
 have d0:(k ==0)=false:=by simpa using h0
 have d1:(k ==1)=false:=by simpa using h1
 have d2:(k ==2)=false:=by simpa using h2
 have d3:(k ==3)=false:=by simpa using h3
 have d7:(k ==7)=false:=by simpa using h7
 have d8:(k ==8)=false:=by simpa using h8
 clear h0 h1 h2 h3 h7 h8
 cases d4:(k ==4)
 ·cases d5:(k ==5)
  ·rw[d4,d5]at hr
   go_enter Tryz.func207,Tryz.ntmps207
   go_wp2_with fail;go_ret;exact⟨by rw[hr.out] <;> rfl,rfl⟩
  ·rw[d4,d5]at hr
   go_enter Tryz.func207,Tryz.ntmps207
   go_wp2_with fail;go_ret;exact⟨by rw[hr.out] <;> rfl,rfl⟩
 ·rw[d4]at hr
  go_enter Tryz.func207,Tryz.ntmps207
  go_wp2_with fail;go_ret;exact⟨by rw[hr.out] <;> rfl,rfl⟩
theorem Zjf{n:Int}{C:List L.Gt}{v:Value}{w:World}(hv:SlC w v C)(h1:C.length≤5000)(h2:∀g∈C,g.inp.length≤200) :
  Calls Tryz.prog 175 #[.agg #[.int .i64 n,v]] w fun e w'=>e= .returned (.int .i64 (L.ciSize C:Nat))∧Ext w w':=by
 obtain⟨ba,cp,rfl,aO⟩:=hv.shape;clear hv;have aC:Ext w (w.alloc (.cells #[.int .i64 n,.slice ba C.length cp] 84)):=(Ext.refl w).alloc _;have aX:=Zpm w (.cells #[.int .i64 n,.slice ba C.length cp] 84);obtain⟨w1,aD⟩:∃w1,w1=w.alloc (.cells #[.int .i64 n,.slice ba C.length cp] 84):=⟨_,rfl⟩;rw[←aD]at aC aX;have c1:w1.cell? ⟨w.heap.size,1,none⟩=some (.slice ba C.length cp):=by simp[World.cell?,aX]
 replace aO:=Zpe aO;replace h2:=Zpe h2;clear aX;replace aC:=Zpe aC
 go_enter Tryz.func175,Tryz.ntmps175
 go_wp2_with fail;rw[←aD];replace aD:=Zpe aD;go_wp2_with fail;clear c1
 go_loopw [3,9] (fun s i wr=>∃k:Nat,k≤C.length∧s= .int .i64 (L.ciSize (C.take k):Nat)∧i= .int .i64 k∧Ext w1 wr) (fun _ i _=>C.length - (intOf i).toNat)
 case atStart=>exact⟨0,Nat.zero_le _,rfl,rfl,Ext.refl _⟩
 case round =>
  obtain⟨k,hk,rfl,rfl,ax⟩:=hrel;have bW:L.ciSize (C.take k)≤200*5000:=Zpp (L.ciSize_le fun g hg=>h2.out g (List.mem_of_mem_take hg)) (Nat.mul_le_mul_left _ (by rw[List.length_take];omega))
  by_cases aE:k<C.length
  ·obtain⟨b,o,bb,cc,rfl,f0,f1,f2,_⟩:=aO.out k aE
   have g0:=(aC.out.trans ax).cell f0;have g1:=(aC.out.trans ax).cell f1;have g2:=(aC.out.trans ax).cell f2;have bN:=L.ciSize_take aE;have hm:=h2.out _ (Zpz aE);clear f0 f1 f2 aO;generalize hN:L.ciSize (C.take k)=N at *;generalize C[k]=g at *;obtain⟨kd,lt,ip⟩:=g
   dsimp only at *
   generalize ip.length=M at *;replace bN:=Zpe bN;replace hN:=Zpe hN;replace ax:=Zpe ax;have ac:=Zpe (ax.out.alloc (.cells #[.int .i64 kd,.int .i64 lt,.slice bb M cc] 166));go_wp2_with fail;go_roundw
   case rel=>exact⟨k+1,by omega,by rw[bN.out] <;> go_num,by go_num,ac.out⟩
   case measure=>simp[intOf];omega
  ·obtain rfl:k=C.length:=by omega
   rw[List.take_length];replace ax:=Zpe ax;go_wp2_with fail;go_ret;exact⟨rfl,aC.out.trans ax.out⟩
theorem ZkO{i:Nat}{k:Int}{bx:Nat}{w:World}(hc:w.cell? ⟨bx,0,none⟩=some (.int .i64 (i:Nat))):Calls Tryz.prog 208 #[.int .i64 k,.pointer (some ⟨bx,0,none⟩)] w fun e w'=>e= .returned (.bool (!(decide (0≤k) && decide (k<i))))∧w=w':=by
 obtain⟨B,hB⟩:∃B,B= !(decide (0≤k) && decide (k<(i:Int))):=⟨_,rfl⟩;rw[←hB]
 by_cases h0:k<0
 ·have d0:decide (k<0)=true:=Zpv h0
  have hr:Hid (B=true):=Zpe (by rw[hB,Zpu (by omega:¬ 0≤k)];rfl);replace h0:=Zpe h0;clear hB
  go_enter Tryz.func208,Tryz.ntmps208
  go_wp2_with fail;go_ret;exact⟨by rw[hr.out] <;> rfl,rfl⟩
 ·have d0:decide (k<0)=false:=Zpu h0
  have hr:Hid (B=decide (k≥(i:Int))):=Zpe (by
   rw[hB,Zpv (by omega:0≤k),Bool.true_and,←decide_not];exact decide_eq_decide.2 (by omega))
  replace h0:=Zpe h0;clear hB
  go_enter Tryz.func208,Tryz.ntmps208
  go_wp2_with fail;go_ret;exact⟨by rw[hr.out] <;> rfl,rfl⟩
end Go.Proofs.YtmnjakejhbpkoaaGreatDoor
end
