import Derived.Test.YtmnjakejhbpkoaaGreatDoorVCj4
import Derived.Laws.AppendOwnNone
set_option linter.unusedSimpArgs false
set_option linter.unusedVariables false
set_option maxRecDepth 100000
set_option maxHeartbeats 8000000
section
namespace Go.Proofs.YtmnjakejhbpkoaaGreatDoor
open Go Go.RowKit Go.Shelf
theorem Zhq:(Tryz.prog.info? 106).map (fun i=>(i.zero,i.size,i.bytes))=some (some (.agg #[.int .i64 0,.int .i64 0,.int .i64 0]),3,24):=by kernel_rfl
theorem Zjn{t:List VN}(w:World)(ba:Option Addr)(cap:Nat)(ht:t=[]∨∃b o,ba=some ⟨b,o,none⟩∧Zam w b o t)(dE:ba=none→cap=0)(hl:t.length≤300) :
  Calls Tryz.prog 18 #[.slice ba t.length cap] w fun e w'=>∃b c,e= .returned (.slice (some ⟨b,0,none⟩) t.length c)∧w.heap.size≤b∧(∃cs:Array Value,w'.heap[b]? =some (.cells cs 106 (0,0)))∧Zam w' b 0 t∧Below w.heap.size w w':=by
 obtain⟨iv,qN,kR,jU,tt⟩:=info_parts Zhq;have aL:(Zaq t).length=3*t.length:=Zcm t;have pJ:(w.alloc (.cells #[] 106)).ownsRow w.heap.size 106 3 (.slice (some ⟨w.heap.size,0,none⟩) 0 0) 0 []:=World.ownsRow_lit w #[] 0 (ZpD _) (by unfold maxLen;omega) rfl;have aS:Below w.heap.size w (w.alloc (.cells #[] 106)):=(Zpr _ _).alloc (ZpD _) _;have dX:∀u∈Zaq t,u.oneCell'=true:=Zdz t
 go_enter Tryz.func18,Tryz.ntmps18
 cases ba with
 | none =>
   obtain rfl:=dE rfl;obtain rfl:t=[]:=ht.resolve_right (by rintro⟨b,o,h,_⟩;cases h)
   go_wp2_with (at_builtin;refine wpList_append_own_none rfl _ _ 26 rfl w.heap.size 106 iv 3 Tryz.underlying26 qN _ 0 [] rfl pJ rfl ?_)
   go_ret;exact⟨w.heap.size,⟨0,rfl⟩,ZpD _,⟨_,Zpm _ _⟩,fun j u hj=>by simp[Zaq]at hj,aS⟩
 | some a =>
   have aT:∀j u,(Zaq t)[j]? =some u→(w.alloc (.cells #[] 106)).cell? (a.add j)=some u:=fun j u hj=>by
    rcases ht with rfl|⟨b,o,e,h⟩
    ·simp[Zaq]at hj
    ·cases e
     rw[Addr.add_lit];have:=h j u hj;exact(aS.cell (Zpk w _ this)).trans this
   clear ht
   go_wp2_with (at_builtin;refine wpList_append_own _ rfl _ _ 26 rfl w.heap.size 106 iv _ 3 24 Tryz.underlying26 qN kR jU tt rfl (by decide) _ 0 [] rfl pJ a t.length cap (Zaq t) rfl (by omega) aT dX (by unfold maxLen;omega) (by omega) aS.size ?_;intro v4 w4 cB ez eK)
   go_ret;have bF:Below w.heap.size w w4:=Below.grown aS ez aS.size (fun k e=>by have:=Zbc pJ e;omega);rw[List.nil_append,Nat.zero_add]at cB;obtain⟨_,⟨rfl,e⟩|⟨g,c,cur,rfl,bk,bV,hn,hm,aO,ht⟩⟩:=cB
   ·cases (eK.1 rfl).1
   ·refine⟨g,c,rfl,bk,⟨cur,bV⟩,fun j u hj=>?_,bF⟩
    have gT:=(Zpj hj).1;rw[←ht,List.getElem?_take_of_lt (by omega)]at hj;rw[World.cell?,bV]
    show cur[0+j]? =some u
    rw[Nat.zero_add,←Array.getElem?_toList];exact hj
theorem ZiB(e:Int)(ba:Option Addr)(n cap:Nat)(w:World):Calls Tryz.prog 20 #[.int .i64 e,.slice ba n cap] w fun r w'=>r= .returned (.bool (decide (e=7) && decide (7<n)))∧w=w':=by
 by_cases h:e=7
 ·subst h
  by_cases hn:7<n
  ·have d1:decide ((n:Int) > 7)=true:=Zpv (by omega)
   have d2:decide (7<n)=true:=Zpv hn
   go_enter Tryz.func20,Tryz.ntmps20
   go_wp2_with fail;go_ret;exact⟨by rw[d2];rfl,rfl⟩
  ·have d1:decide ((n:Int) > 7)=false:=Zpu (by omega)
   have d2:decide (7<n)=false:=Zpu hn
   go_enter Tryz.func20,Tryz.ntmps20
   go_wp2_with fail;go_ret;exact⟨by rw[d2];rfl,rfl⟩
 ·have d1:(e ==7)=false:=by simpa using h
  have d2:decide (e=7)=false:=Zpu h
  go_enter Tryz.func20,Tryz.ntmps20
  go_wp2_with fail;go_ret;exact⟨by rw[d2];rfl,rfl⟩
def ZbY (w:World)(base:Nat)(us:List Value)(T:List (List Int)):Prop :=
 us.length=T.length∧∀(j:Nat) (u:Value) (c:List Int),us[j]? =some u→T[j]? =some c→w.ownsRow base 3 1 u c.length (c.map ZeJ)
theorem ZbY.keep{w w':World}{base:Nat}{us:List Value}{T:List (List Int)}(h:ZbY w base us T)(hk:∀(g:Nat) (c:Array Value),w.heap[g]? =some (.cells c 3 (0,0))→w'.heap[g]? =w.heap[g]?):ZbY w' base us T :=
 ⟨h.1,fun j u c h1 h2=>by
   obtain⟨a,h3|⟨g,cap,cur,rfl,bk,bV,hr⟩⟩:=h.2 j u c h1 h2
   ·exact⟨a,.inl h3⟩
   ·exact⟨a,.inr ⟨g,cap,cur,rfl,bk,(hk g cur bV).trans bV,hr⟩⟩⟩
theorem ZbY.nil(w:World)(base:Nat):ZbY w base [] []:=⟨rfl,fun j u c h=>by simp at h⟩
theorem ZbY.snoc{w:World}{base:Nat}{us:List Value}{T:List (List Int)}{u:Value}{c:List Int}(h:ZbY w base us T)(hu:w.ownsRow base 3 1 u c.length (c.map ZeJ)):ZbY w base (us++[u]) (T++[c]):=by
 refine⟨by simp[h.1],fun j u' c' h1 h2=>?_⟩
 by_cases hj:j<us.length
 ·rw[List.getElem?_append_left hj]at h1
  rw[List.getElem?_append_left (by rw[←h.1];exact hj)]at h2;exact h.2 j u' c' h1 h2
 ·rw[List.getElem?_append_right (by omega)]at h1
  rw[List.getElem?_append_right (by rw[←h.1];omega),←h.1]at h2;obtain⟨k,hk⟩:∃k,j - us.length=k:=⟨_,rfl⟩;rw[hk]at h1 h2
  cases k with
  | zero =>
    simp only[List.getElem?_cons_zero,Zpw]at h1 h2;subst h1;subst h2;exact hu
  | succ k=>simp at h1
theorem Zdd{P:Program}{w:World}(base:Nat)(t ty e:TypeId)(i:TypeInfo)(size:Nat)(ht:P.underlying t=some (.slice e))(hi:P.info? e=some i)
  (v:Value) (n:Nat) (xs:List Value) (bH:w.ownsRow base e size v n xs) (c:Nat) :
  (Builtin.append_ #[t,t] ty #[v,.slice none 0 c]).run P w= .ok v w:=by
 rcases bH.2 with ⟨rfl,rfl⟩|⟨g,cap,cur,rfl,_,_,hnc,_⟩
 ·simp[Builtin.append_,run_underlying ht,sizeOf,typeInfo,hi,Builtin.lenOf,Builtin.firstCells]
 ·simp[Builtin.append_,run_underlying ht,sizeOf,typeInfo,hi,Builtin.lenOf,Builtin.firstCells,hnc,storeCells]
theorem ZbU{P:Program}{w:World}{o:Oper}{a:Act}{K:Act→World→Prop}{Q:Exit→Act→World→Prop}(s x:Operand)(t:TypeId)
  (ho:o.op= .call { callee:=.builtin .append,args:=#[s,x],argTypes:=#[t,t] })
  (base:Nat) (e:TypeId) (i:TypeInfo) (size:Nat) (ht:P.underlying t=some (.slice e)) (hi:P.info? e=some i)
  (v:Value) (n:Nat) (xs:List Value) (hs:a.eval s=v) (bH:w.ownsRow base e size v n xs) (c:Nat) (hx:a.eval x= .slice none 0 c)
  (h:K (a.put o.dst v) w):o.wp P a w K Q:=by
 have hr:=Zdd (P:=P) (w:=w) base t o.type e i size ht hi v n xs bH c;unfold Oper.wp execOp;simp only[ho,resolve,invoke,builtin,Sem.run_bind,Sem.run_pure,Result.andThen_ok,List.map_toArray,List.map_cons,List.map_nil,hs,hx,hr];exact h
theorem Za0{w w':World}{base n size:Nat}{e:TypeId}{v:Value}{xs:List Value}(h:w.ownsRow base e size v n xs)(hk:∀(g:Nat) (c:Array Value),w.heap[g]? =some (.cells c e (0,0))→w'.heap[g]? =w.heap[g]?):w'.ownsRow base e size v n xs:=by
 obtain⟨a,h3|⟨g,cap,cur,rfl,bk,bV,hr⟩⟩:=h
 ·exact⟨a,.inl h3⟩
 ·exact⟨a,.inr ⟨g,cap,cur,rfl,bk,(hk g cur bV).trans bV,hr⟩⟩
theorem ZaY{w w':World}{base n size:Nat}{e e':TypeId}{v:Value}{xs:List Value}(h:w.ownsRow base e size v n xs)(hg:w.grownBy w' v.ownBlock){g:Nat}{c:Array Value}(h1:w.heap[g]? =some (.cells c e' (0,0)))(aH:e'≠e):w'.heap[g]? =w.heap[g]?:=by
 refine hg.block g (Zpi h1).1 fun he=>?_
 obtain⟨_,⟨rfl,_⟩|⟨g',cap,cur,rfl,bk,bV,hr⟩⟩:=h
 ·simp[Value.ownBlock]at he
 ·simp[Value.ownBlock]at he
  subst he;rw[h1]at bV;simp only[Zpw,Obj.cells.injEq]at bV;exact aH bV.2.1
theorem Zfr{w:World}{o:Oper}{a:Act}{K:Act→World→Prop}{Q:Exit→Act→World→Prop}(s x:Operand)(ho:o.op= .call { callee:=.builtin .append,args:=#[s,x],argTypes:=#[45,45] })
  (base:Nat) (i:TypeInfo) (hi:Tryz.prog.info? 3=some i) (hz:i.zero=some (.int .i64 0)) (tI:i.size=1) (kG:i.bytes=8)
  (v:Value) (n:Nat) (xs:List Value) (hs:a.eval s=v) (bH:w.ownsRow base 3 1 v n xs) (cb:Option Addr) (cc:Nat) (c:List Int) (hx:a.eval x= .slice cb c.length cc)
  (bR:∀j (hj:j<c.length),∃b o,cb=some ⟨b,o,none⟩∧w.cell? ⟨b,o+j,none⟩=some (.int .i64 c[j])) (hn:n+c.length≤1048576) (aw:base≤w.heap.size)
  (h:∀v' w',w'.ownsRow base 3 1 v' (n+c.length) (xs++c.map ZeJ)→w.grownBy w' v.ownBlock→K (a.put o.dst v') w'):o.wp Tryz.prog a w K Q:=by
 cases cb with
 | none =>
   have hc:c=[]:=by
    cases c with
    | nil=>rfl
    | cons y r=>obtain⟨b,o',h1,_⟩:=bR 0 (by simp);cases h1
   subst hc;exact ZbU s x 45 ho base 3 i 1 Tryz.underlying45 hi v n xs hs bH cc hx (h v w (by simpa using bH) ⟨rfl,rfl,rfl,ZpD _,fun _ _ _=>rfl⟩)
 | some ad =>
   refine wp_append_own w s x 45 ho base 3 i _ 1 8 Tryz.underlying45 hi hz tI kG rfl (by decide) v n xs hs bH ad c.length cc (c.map ZeJ) hx (by simp) (fun j u hj=>?_) (fun u hu=>?_) (by unfold maxLen;omega) (by omega) aw (fun v' w' h1 h2 _=>h v' w' h1 h2)
   ·obtain⟨z,ak,rfl⟩:=List.getElem?_map .. ▸ hj |> Option.map_eq_some_iff.1
    obtain⟨gT,rfl⟩:=Zpj ak;obtain⟨b,o',h1,h2⟩:=bR j gT
    cases h1
    rw[Addr.add_lit];exact h2
   ·obtain⟨z,_,rfl⟩:=List.mem_map.1 hu
    rfl
theorem ZhO(w:World)(cap:Nat) :
  Calls Tryz.prog 18 #[.slice none 0 cap] w fun e w'=>e= .returned (.slice (some ⟨w.heap.size,0,none⟩) 0 0)∧Below w.heap.size w w':=by
 obtain⟨iv,qN,kR,jU,tt⟩:=info_parts Zhq;have pJ:(w.alloc (.cells #[] 106)).ownsRow w.heap.size 106 3 (.slice (some ⟨w.heap.size,0,none⟩) 0 0) 0 []:=World.ownsRow_lit w #[] 0 (ZpD _) (by unfold maxLen;omega) rfl;have aS:Below w.heap.size w (w.alloc (.cells #[] 106)):=(Zpr _ _).alloc (ZpD _) _
 go_enter Tryz.func18,Tryz.ntmps18
 go_wp2_with (at_builtin;refine wpList_plain rfl fun K hK=>ZbU _ _ 26 rfl w.heap.size 106 iv 3 Tryz.underlying26 qN _ 0 [] rfl pJ cap rfl (hK _ _ ?_))
 go_ret;exact⟨rfl,aS⟩
theorem ZeP{n:Int}{i:Nat}{g:L.Gt}(h:L.gOk n i g=true)(hk:g.kind=2):L.validB n g.lit=true:=by
 unfold L.gOk L.gLit at h;rw[if_pos hk]at h;simp only[Zpx]at h;exact h.2.1
theorem Zfz{n:Int}{C:List L.Gt}{v:Value}{w:World}(hv:SlC w v C)(h2:∀g∈C,g.inp.length≤200)(aq:L.ciChk n C=0) :
  Calls Tryz.prog 116 #[.agg #[.int .i64 n,v]] w fun e w'=>e= .returned (ZaT (L.ciVars C))∧Ext w w':=by
 obtain⟨⟨cO,aX⟩,hT,_,_,aN⟩:=L.ciChk_ok.1 aq;have qc:=fun W (h:SlC W v C)=>Zcc (n:=n) h (by omega) h2
 rw[aq]at qc;obtain⟨ba,cp,rfl,aO⟩:=hv.shape;obtain⟨w3,de⟩:∃w3,w3=((w.alloc (.cells #[.int .i64 n,.slice ba C.length cp] 84)).alloc (.cells #[.int .u64 0,.int .u64 0] 41)).alloc (.cells #[.int .u64 0,.int .u64 0] 41):=⟨_,rfl⟩;obtain⟨e1,e2,e3⟩:=Zcz w (.cells #[.int .i64 n,.slice ba C.length cp] 84) (.cells #[.int .u64 0,.int .u64 0] 41) (.cells #[.int .u64 0,.int .u64 0] 41);have aR:Ext w w3:=by rw[de];exact(((Ext.refl w).alloc _).alloc _).alloc _
 rw[←de]at e1 e2 e3;have q1:=qc w3 (hv.ext aR.below);have ut:w3.cell? ⟨w.heap.size,0,none⟩=some (.int .i64 n):=by simp[World.cell?,e1]
 have q8:w3.cell? ⟨w.heap.size,1,none⟩=some (.slice ba C.length cp):=by simp[World.cell?,e1]
 replace e2:=Zpe e2;replace e3:=Zpe e3;replace aR:=Zpe aR;replace aN:=Zpe aN;replace aO:=Zpe aO;replace h2:=Zpe h2;clear hv qc aq
 go_enter Tryz.func116,Tryz.ntmps116
 go_wp2_with fail;rw[←de];replace de:=Zpe de;refine q1.mono ?_;rintro e w4 ⟨rfl,ah⟩;have vC:=ah.cell q8;have g2:=ah.below.block _ (Zpi e2.out).1 |>.trans e2.out
 have g3:=ah.below.block _ (Zpi e3.out).1 |>.trans e3.out
 have bK:=aR.out.trans ah;replace g2:=Zpe g2;replace g3:=Zpe g3;replace bK:=Zpe bK;clear q1 ut q8 e1 e2 e3 aR ah;go_wp2_with fail;obtain⟨Z,hZ⟩:∃Z,Z=w.heap.size+1:=⟨_,rfl⟩;rw[←hZ]at g2 g3 ⊢;replace hZ:=Zpe hZ
 go_loopw [13] (fun i wr=>∃k:Nat,k≤C.length∧i= .int .i64 k∧(wr.heap[Z+1]? =some (cS (L.ciVars (C.take k)))∧wr.heap[Z]? =some (.cells #[.int .u64 0,.int .u64 0] 41 (0,0))∧Ext w wr)) (fun i _=>C.length - (intOf i).toNat)
 case atStart=>exact⟨0,Nat.zero_le _,rfl,g3.out.trans (congrArg some Zkl.symm),g2.out,bK.out⟩
 case round =>
  obtain⟨k,hk,rfl,hH,hz,hx⟩:=hrel;clear vC g2 g3 bK
  by_cases aE:k<C.length
  ·obtain⟨b,o,bb,cc,rfl,f0,f1,f2,_⟩:=aO.out k aE
   have f0:=hx.cell f0;have f1:=hx.cell f1;have f2:=hx.cell f2;have bN:=L.ciVars_take aE;have dU:=ZeP (aN.out k aE);generalize mH:L.ciVars (C.take k)=s0 at *;generalize e8:C[k]=g at *;obtain⟨kd,lt,ip⟩:=g
   dsimp only at *
   generalize ip.length=M at *;have gM:Ext wr (wr.alloc (.cells #[.int .i64 kd,.int .i64 lt,.slice bb M cc] 166)):=(Ext.refl _).alloc _;have bY:=Zpm wr (.cells #[.int .i64 kd,.int .i64 lt,.slice bb M cc] 166);obtain⟨wa,eE⟩:∃wa,wa=wr.alloc (.cells #[.int .i64 kd,.int .i64 lt,.slice bb M cc] 166):=⟨_,rfl⟩;rw[←eE]at gM bY;replace eE:=Zpe eE;have k0:wa.cell? ⟨wr.heap.size,0,none⟩=some (.int .i64 kd):=by simp[World.cell?,bY]
   have k1:wa.cell? ⟨wr.heap.size,1,none⟩=some (.int .i64 lt):=by simp[World.cell?,bY]
   have qC:=(gM.below.block _ (Zpi hH).1).trans hH;have pj:=(gM.below.block _ (Zpi hz).1).trans hz;have lT:=hx.trans gM;obtain⟨gb,bk⟩:∃gb,gb=wr.heap.size:=⟨_,rfl⟩;rw[←bk]at k0 k1;replace bN:=Zpe bN;replace mH:=Zpe mH;replace e8:=Zpe e8;replace qC:=Zpe qC;replace pj:=Zpe pj;replace lT:=Zpe lT;clear bY aO de aN gM hH hz hx
   by_cases bX:kd=2
   ·subst bX
    have av:=ZfW aX (dU rfl);clear dU;have ed:L.ciVars (C.take (k+1))=ZaA s0 (Zfq lt):=by rw[bN.out,av];rfl
    have c0:wa.cell? ⟨Z+1,0,none⟩=some (.int .u64 (lo s0)):=by simp[World.cell?,qC.out,cS]
    have c1:wa.cell? ⟨Z+1,1,none⟩=some (.int .u64 (hi s0)):=by simp[World.cell?,qC.out,cS]
    have bW:Z+1<wa.heap.size:=Zpk wa _ c0;have qv:=fun W=>ZgB lt W
    replace av:=Zpe av;generalize Zfq lt=y at *;have qw:=fun W=>Zex s0 y W
    unfold ZaT at qw;replace qv:=Zpe qv;replace qw:=Zpe qw;replace ed:=Zpe ed;go_wp2_with fail;rw[←eE.out,←bk];replace bk:=Zpe bk;go_wp2_with fail;(refine ZaQ (S:=(fun V=>V.cell? ⟨Z+1,0,none⟩=some (.int .u64 (lo s0))∧V.cell? ⟨Z+1,1,none⟩=some (.int .u64 (hi s0))∧V.cell? ⟨gb,1,none⟩=some (.int .i64 lt))) 5 (by kernel_rfl) ?_ (fun aA=>?_))
    ·exact⟨c0,c1,k1⟩
    (refine Zac (i:=0) (v:=?_) rfl (by kernel_rfl) (by decide) (by kernel_rfl) (by kernel_rfl) (by kernel_rfl) (fun _ _ _ h=>h) (Or.inl ⟨by rfl,?_⟩) (by assumption) ?_);rotate_left
    ·(intro w aB;(try dsimp only at aB);obtain⟨r0,r1,r2⟩:=aB;go_simp;first|done|with_reducible rfl)
    (try simp only[Act.put,Zpf,Zpg,Zph]);(refine Zac (i:=1) (v:=?_) rfl (by kernel_rfl) (by decide) (by kernel_rfl) (by kernel_rfl) (by kernel_rfl) (fun _ _ _ h=>h) (Or.inl ⟨by rfl,?_⟩) (by assumption) ?_);rotate_left
    ·(intro w aB;(try dsimp only at aB);skip;go_simp;first|done|with_reducible rfl)
    (try simp only[Act.put,Zpf,Zpg,Zph]);(refine Zac (i:=2) (v:=?_) rfl (by kernel_rfl) (by decide) (by kernel_rfl) (by kernel_rfl) (by kernel_rfl) (fun _ _ _ h=>h) (Or.inl ⟨by rfl,?_⟩) (by assumption) ?_);rotate_left
    ·(intro w aB;(try dsimp only at aB);obtain⟨r0,r1,r2⟩:=aB;go_simp;first|done|with_reducible rfl)
    (try simp only[Act.put,Zpf,Zpg,Zph]);(refine ZaI (i:=3) (by kernel_rfl) rfl (fun K hK=>?_))
    ((rw[if_pos (by rfl)]);go_simp;(go_at_call 143);refine(qv.out _).mono ?_;rintro e v1 ⟨rfl,rfl⟩;refine hK.out _ _ aA (fun aA=>?_))
    (clear hK K)
    (try simp only[Act.put,Zpf,Zpg,Zph]);(refine ZaI (i:=4) (by kernel_rfl) rfl (fun K hK=>?_))
    ((rw[if_pos (by rfl)]);go_simp;(go_at_call 113);refine(qw.out _).mono ?_;rintro e v2 ⟨rfl,ap⟩;refine hK.out _ _ ⟨ap.cell aA.1,ap.cell aA.2.1,ap.cell aA.2.2⟩ (fun aA=>?_))
    (clear hK K)
    (try simp only[Act.put,Zpf,Zpg,Zph]);have gK:Ext wa v2:=((Ext.refl wa).drew).trans ap;have mE:=(gK.below.block _ bW).trans qC.out;have bE:=(gK.below.block _ (by omega)).trans pj.out;have z0:v2.cell? ⟨Z+1,0,none⟩=some (.int .u64 (lo s0)):=aA.1;have z1:v2.cell? ⟨Z+1,1,none⟩=some (.int .u64 (hi s0)):=aA.2.1;have y0:v2.frozen? ⟨Z+1,0,none⟩=false:=by simp[World.frozen?,mE,cS]
    have y1:v2.frozen? ⟨Z+1,1,none⟩=false:=by simp[World.frozen?,mE,cS]
    have iV:w.heap.size≤Z+1:=by have:=hZ.out;omega
    have ac:Hid (((v2.setCell ⟨Z+1,0,none⟩ (.int .u64 (lo (ZaA s0 y)))).setCell ⟨Z+1,1,none⟩ (.int .u64 (hi (ZaA s0 y)))).heap[Z+1]? =some (cS (L.ciVars (C.take (k+1))))∧((v2.setCell ⟨Z+1,0,none⟩ (.int .u64 (lo (ZaA s0 y)))).setCell ⟨Z+1,1,none⟩ (.int .u64 (hi (ZaA s0 y)))).heap[Z]? =some (.cells #[.int .u64 0,.int .u64 0] 41 (0,0))∧Ext w ((v2.setCell ⟨Z+1,0,none⟩ (.int .u64 (lo (ZaA s0 y)))).setCell ⟨Z+1,1,none⟩ (.int .u64 (hi (ZaA s0 y))))):=Zpe ⟨by
     rw[ed.out];exact Zav mE _ _,((Below.heap_setCell _ _ _ _ (by simp)).trans (Below.heap_setCell _ _ _ _ (by simp))).trans bE,((lT.out.trans gK).setCell iV _).setCell iV _⟩
    clear aA ap gK mE bE c0 c1 k0 k1 f0 f1 f2 iV;(refine Zbt (by kernel_rfl) rfl (by kernel_rfl) (fun K hK=>?_))
    ((rw[if_pos (by rfl)]);go_simp;refine hK.out _ _ ?_)
    (clear hK K)
    (try simp only[Act.put,Zpf,Zpg,Zph]);go_wp2_with fail;exact⟨⟨k+1,by omega,rfl,ac.out⟩,by simp[intOf];omega⟩
   ·have d2:(kd ==2)=false:=by simpa using bX
    have ed:L.ciVars (C.take (k+1))=s0:=by rw[bN.out];unfold L.gVars;rw[if_neg bX]
    have ac:Hid (wa.heap[Z+1]? =some (cS (L.ciVars (C.take (k+1))))∧wa.heap[Z]? =some (.cells #[.int .u64 0,.int .u64 0] 41 (0,0))∧Ext w wa):=Zpe ⟨by rw[ed];exact qC.out,pj.out,lT.out⟩;replace bX:=Zpe bX;replace ed:=Zpe ed;clear dU;go_wp2_with fail;rw[←eE.out];exact⟨⟨k+1,by omega,rfl,ac.out⟩,by simp[intOf];omega⟩
  ·obtain rfl:k=C.length:=by omega
   rw[List.take_length]at hH;obtain⟨s0,eI⟩:∃s0,s0=L.ciVars C:=⟨_,rfl⟩;rw[←eI]at hH;replace eI:=Zpe eI;have c0:wr.cell? ⟨Z+1,0,none⟩=some (.int .u64 (lo s0)):=by simp[World.cell?,hH,cS]
   have c1:wr.cell? ⟨Z+1,1,none⟩=some (.int .u64 (hi s0)):=by simp[World.cell?,hH,cS]
   have z0:wr.cell? ⟨Z,0,none⟩=some (.int .u64 0):=by simp[World.cell?,hz]
   have z1:wr.cell? ⟨Z,1,none⟩=some (.int .u64 0):=by simp[World.cell?,hz]
   have y0:wr.frozen? ⟨Z,0,none⟩=false:=by simp[World.frozen?,hz]
   have y1:wr.frozen? ⟨Z,1,none⟩=false:=by simp[World.frozen?,hz]
   have iV:w.heap.size≤Z:=by have:=hZ.out;omega
   have r0:((wr.setCell ⟨Z,0,none⟩ (.int .u64 (lo s0))).setCell ⟨Z,1,none⟩ (.int .u64 (hi s0))).cell? ⟨Z,0,none⟩=some (.int .u64 (lo s0)):=by
    rw[World.cell?,Zav hz];rfl
   have r1:((wr.setCell ⟨Z,0,none⟩ (.int .u64 (lo s0))).setCell ⟨Z,1,none⟩ (.int .u64 (hi s0))).cell? ⟨Z,1,none⟩=some (.int .u64 (hi s0)):=by
    rw[World.cell?,Zav hz];rfl
   have cu:Ext w ((wr.setCell ⟨Z,0,none⟩ (.int .u64 (lo s0))).setCell ⟨Z,1,none⟩ (.int .u64 (hi s0))):=(hx.setCell iV _).setCell iV _;replace cu:=Zpe cu;replace hH:=Zpe hH;replace hz:=Zpe hz;replace hx:=Zpe hx;replace r0:=Zpe r0;replace r1:=Zpe r1;go_wp2_with fail;exact bodyPost_ret (v:=ZaT s0) (by simp[results,Tryz.results116,go_sem,r0.out,r1.out,ZaT]) rfl ⟨by rw[eI.out],cu.out⟩
end Go.Proofs.YtmnjakejhbpkoaaGreatDoor
end
