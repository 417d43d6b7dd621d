import Derived.Test.YtmnjakejhbpkoaaGreatDoorVNt2
import Derived.Laws.CopyOwn
set_option linter.unusedSimpArgs false
set_option linter.unusedVariables false
set_option maxRecDepth 100000
set_option maxHeartbeats 4000000
namespace Go.Proofs.YtmnjakejhbpkoaaGreatDoor
open Go Go.RowKit Go.Shelf
theorem Zec(b1 b2 l1 c1 c2:Nat)(W:World):(Builtin.copy_ #[147,147] 3 #[.slice (some ⟨b1,0,none⟩) l1 c1,.slice (some ⟨b2,0,none⟩) 0 c2]).run Tryz.prog W= .ok (goInt 0) W :=
 run_copy_none W _ _ _ 146 _ _ _ _ _ _ Tryz.underlying147 (by kernel_rfl) (Nat.zero_min _)
theorem Zhg(b1 b2 c1 c2 v u:Nat)(l1:Nat)(hl:1≤l1)(W:World)(h1:W.cell? ⟨b1,0,none⟩=some (.int .u32 u))(jw:W.frozen? ⟨b1,0,none⟩=false)(h2:W.cell? ⟨b2,0,none⟩=some (.int .u32 v)) :
  (Builtin.copy_ #[147,147] 3 #[.slice (some ⟨b1,0,none⟩) l1 c1,.slice (some ⟨b2,0,none⟩) 1 c2]).run Tryz.prog W= .ok (goInt 1) (W.setCell ⟨b1,0,none⟩ (.int .u32 v)) :=
 run_copy_cells W _ _ _ 146 b1 0 _ _ ⟨b2,0,none⟩ _ _ [.int .u32 v] Tryz.underlying147 (by kernel_rfl) (by simp[Nat.min_def];omega) (fun j x hj=>by
  match j,hj with
  | 0,hj=>simp at hj;rw[←hj];exact h2) (fun j hj=>by
  have:j=0:=by simpa using hj
  subst this;simp[h1]) (fun j hj=>by
  have:j=0:=by simpa using hj
  subst this;simpa using jw) (fun x hx=>by simp at hx;rw[hx];rfl)
theorem ZbB(w:World)(o1 o2:Obj):((w.alloc o1).alloc o2).heap[w.heap.size]? =some o1∧((w.alloc o1).alloc o2).heap[w.heap.size+1]? =some o2 :=
 ⟨(Below.heap_alloc _ _ _ (by simp)).trans (Zpm w o1),by have:=Zpm (w.alloc o1) o2;simpa using this⟩
theorem Zcz(w:World)(o1 o2 o3:Obj):(((w.alloc o1).alloc o2).alloc o3).heap[w.heap.size]? =some o1∧(((w.alloc o1).alloc o2).alloc o3).heap[w.heap.size+1]? =some o2∧(((w.alloc o1).alloc o2).alloc o3).heap[w.heap.size+1+1]? =some o3 :=
 ⟨(Below.heap_alloc _ _ _ (by simp <;> omega)).trans (ZbB w o1 o2).1,(Below.heap_alloc _ _ _ (by simp <;> omega)).trans (ZbB w o1 o2).2,by have:=Zpm ((w.alloc o1).alloc o2) o3;simpa using this⟩
theorem Zox(w:World):ZbK (w.alloc (.cells #[.int .u32 0,.int .u32 0] 146)) w.heap.size 146 2 (Zd9 (fun _=>.int .u32 0) 0 (.int .u32 (0:Nat))):=by
 refine(Zfa w #[.int .u32 0,.int .u32 0] 146 _ rfl).congr fun j hj=>?_
 match j,hj with
 | 0,_=>rfl
 | 1,_=>rfl
theorem ZoY(w:World)(b:Nat):ZbK (w.alloc (.cells #[.int .u32 (b:Nat),.int .u32 0] 146)) w.heap.size 146 2 (Zd9 (fun _=>.int .u32 0) 0 (.int .u32 (b:Nat))):=by
 refine(Zfa w #[.int .u32 (b:Nat),.int .u32 0] 146 _ rfl).congr fun j hj=>?_
 match j,hj with
 | 0,_=>rfl
 | 1,_=>rfl
theorem Zii{u v:Nat}(h:u+v<256)(j:Nat)(hj:j<2):Zd9 (Zd9 (Zd9 (fun _=>.int .u32 0) 0 (.int .u32 (u:Nat))) 0 (.int .u32 ((u:Int)+(v:Nat)))) 1 (.int .u32 (((u:Int)+(v:Nat)) / 4294967296)) j=wrd (u+v) j:=by
 match j,hj with
 | 0,_=>show Value.int .u32 ((u:Int)+(v:Nat))= .int .u32 ((u+v:Nat):Int);congr 1
 | 1,_=>show Value.int .u32 (((u:Int)+(v:Nat)) / 4294967296)= .int .u32 0;congr 1;omega
theorem Zmt{w:World}{a b:Nat}(h:a+b<256):Calls Tryz.prog 42 #[Zbx a,Zbx b] w fun e w'=>e= .returned (Zbx (a+b))∧Below w.heap.size w w':=by
 have q1:=fun W=>ZdC (w:=W) (n:=a) (by omega)
 have q2:=fun W=>ZdC (w:=W) (n:=b) (by omega)
 unfold Zbx at *;generalize hA:(⟨(Zb5 a).toArray⟩:ByteArray)=A at *;generalize hB:(⟨(Zb5 b).toArray⟩:ByteArray)=B at *;replace hA:=Zpe hA;replace hB:=Zpe hB;replace q1:=Zpe q1;replace q2:=Zpe q2;have aS:=(((Zpr w.heap.size w).alloc (ZpD _) (.cells #[.string A] 52)).alloc (by simp) (.cells #[.string B] 52)).alloc (by simp <;> omega) (.cells #[.string ⟨#[]⟩] 52);obtain⟨hx,hy,hr⟩:=Zcz w (.cells #[.string A] 52) (.cells #[.string B] 52) (.cells #[.string ⟨#[]⟩] 52)
 go_enter Tryz.func42,Tryz.ntmps42
 go_wp2_with fail;generalize (((w.alloc (.cells #[.string A] 52)).alloc (.cells #[.string B] 52)).alloc (.cells #[.string ⟨#[]⟩] 52))=w1 at *;have bW:w.heap.size+1+1<w1.heap.size:=(Zpi hr).1;have ca:w1.cell? ⟨w.heap.size,0,none⟩=some (.string A):=by simp[World.cell?,hx]
 have cb:w1.cell? ⟨w.heap.size+1,0,none⟩=some (.string B):=by simp[World.cell?,hy]
 (refine wp_region_held_drew (S:=(fun W=>W.cell? ⟨w.heap.size,0,none⟩=some (.string A)∧W.cell? ⟨w.heap.size+1,0,none⟩=some (.string B))) (by kernel_rfl) ?_ (fun aA=>?_))
 ·exact⟨ca,cb⟩
 (refine ZpE (i:=0) (v:=?_) rfl (by kernel_rfl) (fun _ _ _ h=>h) (Or.inl ⟨by rfl,?_⟩) (by assumption) ?_);rotate_left
 ·(intro w aB;(try dsimp only at aB);obtain⟨y0,y1⟩:=aB;go_simp;first|done|with_reducible rfl)
 (try simp only[Act.put,Zpf,Zpg,Zph]);(refine ZpE (i:=2) (v:=?_) rfl (by kernel_rfl) (fun _ _ _ h=>h) (Or.inl ⟨by rfl,?_⟩) (by assumption) ?_);rotate_left
 ·(intro w aB;(try dsimp only at aB);obtain⟨y0,y1⟩:=aB;go_simp;first|done|with_reducible rfl)
 (try simp only[Act.put,Zpf,Zpg,Zph]);(refine wpAnyH_ready (rs:=[1]) (by kernel_rfl) (by simp) ?_);(refine Zaw rfl (fun K hK=>?_))
 ((rw[if_pos (by rfl)]);go_simp;(go_at_call 110);refine(q1.out _).mono ?_;rintro e w3 ⟨g1,rfl,oe,aU,aR⟩;refine hK.out _ _ ⟨(aR.cell (Zpk _ _ aA.1)).trans aA.1,(aR.cell (Zpk _ _ aA.2)).trans aA.2⟩ (fun aA=>?_))
 (clear hK K)
 (try simp only[Act.put,Zpf,Zpg,Zph]);(refine wpAnyH_ready (rs:=[3]) (by kernel_rfl) (by simp) ?_);(refine Zaw rfl (fun K hK=>?_))
 ((rw[if_pos (by rfl)]);go_simp;(go_at_call 110);refine(q2.out _).mono ?_;rintro e w4 ⟨g2,rfl,fk,bM,ah⟩;refine hK.out _ _ ⟨(ah.cell (Zpk _ _ aA.1)).trans aA.1,(ah.cell (Zpk _ _ aA.2)).trans aA.2⟩ (fun aA=>?_))
 (clear hK K)
 (try simp only[Act.put,Zpf,Zpg,Zph]);(refine ZpE (i:=4) (v:=?_) rfl (by kernel_rfl) (fun _ _ _ h=>h) (Or.inl ⟨by rfl,?_⟩) (by assumption) ?_);rotate_left
 ·(intro w aB;(try dsimp only at aB);obtain⟨y0,y1⟩:=aB;go_simp;first|done|with_reducible rfl)
 (try simp only[Act.put,Zpf,Zpg,Zph]);(refine ZpE (i:=5) (v:=?_) rfl (by kernel_rfl) (fun _ _ _ h=>h) (Or.inl ⟨by rfl,?_⟩) (by assumption) ?_);rotate_left
 ·(intro w aB;(try dsimp only at aB);obtain⟨y0,y1⟩:=aB;go_simp;first|done|with_reducible rfl)
 (try simp only[Act.put,Zpf,Zpg,Zph]);(refine wpAnyH_done (by kernel_rfl) ?_ _);have j6:=aU.below ah;have lS:Below w1.heap.size w1 w3:=((Zpr w1.heap.size w1).drew).trans aR;have eW:=lS.trans (ah.mono aR.size);have eg:=(eW.block _ bW).trans hr;have og:w1.heap.size≤g1:=oe;have wy:w1.heap.size≤g2:=Zpp aR.size fk;have sD:g1≠g2:=by have:=aU.lt;omega
 have am:Hid (Below w.heap.size w w4):=Zpe (aS.trans (eW.mono aS.size));have ud:=aS.size;clear aA aR ah lS eW aU ca cb hx hy hr oe fk aS;generalize oN:nw a=n1 at *;generalize rI:nw b=n2 at *;have aX:n1=0∧a=0∨n1=1∧0<a:=by rw[←oN];unfold nw;split <;> omega
 have dW:n2=0∧b=0∨n2=1∧0<b:=by rw[←rI];unfold nw;split <;> omega
 clear oN rI;have nu:=fun W=>Zbr (by_:=4) Tryz.underlying147 (show (Tryz.prog.info? 146).map (fun i=>(i.zero,i.size,i.bytes))=some (some (.int .u32 0),1,4) by kernel_rfl) rfl 1 (by omega) (by omega) W
 rw[show (((1:Nat):Nat):Int)=1 from rfl,show madeCells #[Value.int .u32 0] 1=#[.int .u32 0] by simp[madeCells];exact⟨0,rfl,rfl⟩]at nu;have pu:=fun W=>Zbr (by_:=4) Tryz.underlying147 (show (Tryz.prog.info? 146).map (fun i=>(i.zero,i.size,i.bytes))=some (some (.int .u32 0),1,4) by kernel_rfl) rfl 2 (by omega) (by omega) W
 rw[show (((2:Nat):Nat):Int)=2 from rfl,show madeCells #[Value.int .u32 0] 2=#[.int .u32 0,.int .u32 0] by kernel_rfl]at pu;have uy:=fun l1 c1 c2 W=>Zec w4.heap.size g1 l1 c1 c2 W
 have uz:=fun l1 c1 c2 W=>Zec w4.heap.size g2 l1 c1 c2 W
 clear q1 q2;rcases aX with ⟨rfl,rfl⟩|⟨rfl,ha⟩ <;> rcases dW with ⟨rfl,rfl⟩|⟨rfl,hb⟩
 ·clear pu uy
  go_wp2_with fail;refine wp_loop_rounds 1 ?_;rw[rounds_succ];go_wp2_with fail
  have q:=Zbp (cap:=1) (n:=0) ((Zfa w4 #[.int .u32 0] 146 w4.heap.size rfl).congr (g:=wrd 0) fun j hj=>by
   match j,hj with
   | 0,_=>rfl) (Nat.le_succ 1) (by omega) (fun e=>by cases e)
  have cC:=(Below.heap_alloc w4 (.cells #[.int .u32 0] 146) _ (Zpi eg).1).trans eg;have ay:=Zpe (am.out.alloc am.out.size (.cells #[.int .u32 0] 146));generalize w4.alloc (.cells #[.int .u32 0] 146)=w8 at *;refine q.mono ?_;rintro e w9 ⟨rfl,bP⟩;have ar:=(bP.block (w.heap.size+1+1) (Zpi cC).1).trans cC;have ny:w9.frozen? ⟨w.heap.size+1+1,0,none⟩=false:=by simp[World.frozen?,ar]
  have o8:w9.cell? ⟨w.heap.size+1+1,0,none⟩=some (.string ⟨#[]⟩):=by simp[World.cell?,ar]
  have dQ:=Zpe (ay.out.trans (bP.mono ay.out.size));unfold Zbx;generalize hT:(⟨(Zb5 (0+0)).toArray⟩:ByteArray)=T at *;have aG:((w9.setCell ⟨w.heap.size+1+1,0,none⟩ (.string T)).cell? ⟨w.heap.size+1+1,0,none⟩=some (.string T)):=by simp[World.cell?,Zag ar 0 _]
  replace aG:=Zpe aG;replace ar:=Zpe ar;clear q bP cC ay;go_wp2_with fail;exact bodyPost_ret (v:=.agg #[.string T]) (by simp[results,Tryz.results42,go_sem,aG.out]) rfl ⟨by rw[←hT] <;> rfl,dQ.out.setCell (by exact Nat.le_add_right_of_le (Nat.le_succ _)) _⟩
 ·clear nu uz
  go_wp2_with fail;obtain⟨go,bm⟩:∃go,go=w4.heap.size:=⟨_,rfl⟩;obtain⟨u,hu⟩:∃u:Nat,u=0:=⟨_,rfl⟩;have nn:u+b<256:=by omega
  have ho:ZbK (w4.alloc (.cells #[.int .u32 0,.int .u32 0] 146)) go 146 2 (Zd9 (fun _=>.int .u32 0) 0 (.int .u32 u)):=by rw[bm,hu];exact Zox w4
  have fK:(w4.alloc (.cells #[.int .u32 0,.int .u32 0] 146)).cell? ⟨g2,0,none⟩=some (.int .u32 (b:Nat)):=by exact((bM.below ((Zpr _ _).alloc (ZpD _) _)).cell (j:=0) (by omega)).1
  have eT:(w4.alloc (.cells #[.int .u32 0,.int .u32 0] 146)).heap[w.heap.size+1+1]? =some (.cells #[.string ⟨#[]⟩] 52 (0,0)):=by exact(Below.heap_alloc w4 _ _ (Zpi eg).1).trans eg
  have dP:Hid (Below w.heap.size w (w4.alloc (.cells #[.int .u32 0,.int .u32 0] 146))):=Zpe (by exact am.out.alloc am.out.size _)
  try rw[←bm]
  try simp only[←bm]
  generalize w4.alloc (.cells #[.int .u32 0,.int .u32 0] 146)=w5 at *;replace bm:=Zpe bm;replace hu:=Zpe hu;obtain⟨c0,z0⟩:=ho.cell (j:=0) (by omega);obtain⟨c1,z1⟩:=ho.cell (j:=1) (by omega);rw[show Zd9 (fun _=>Value.int .u32 0) 0 (.int .u32 u) 0= .int .u32 u from rfl]at c0;have F1:=Zpe fun (W:World) (hW:Ext w5 W)=>And.intro (hW.cell c0) (hW.cell fK)
  refine wp_loop_rounds 2 ?_;rw[rounds_succ];go_wp2_with fail
  (refine Zah (by kernel_rfl) (by kernel_rfl) ?_
   repeat (refine wpQuiet_step (fun K hK=>?_)
           go_simp
           first
            | (refine hK _ ?_;clear hK K)
            | (replace hK:=Zpe hK
               apply Exists.intro
               refine⟨fun wq hq=>?_,hK.out _ ?_⟩
               ·(obtain⟨f1,f2⟩:=F1.out wq hq)
                go_simp
                first
                 | done
                 | rfl
                 | exact⟨rfl,rfl⟩
                 | done
               clear hK K))
   refine wpQuiet_nil ?_)
  intro w6 eL;have cz:=ho.ext eL;have jD:=(eL.below.block _ (Zpi eT).1).trans eT;have dB:Hid (Below w.heap.size w w6):=Zpe (dP.out.trans (eL.below.mono dP.out.size));obtain⟨d0,e0⟩:=cz.cell (j:=0) (by omega);obtain⟨d1,e1⟩:=cz.cell (j:=1) (by omega);rw[show Zd9 (fun _=>Value.int .u32 0) 0 (.int .u32 u) 0= .int .u32 u from rfl]at d0;rw[show Zd9 (fun _=>Value.int .u32 0) 0 (.int .u32 u) 1= .int .u32 0 from rfl]at d1;replace cz:=Zpe cz;replace jD:=Zpe jD;clear F1 ho fK eT dP c0 z0 c1 z1 eL;go_wp2_with fail;rw[rounds_succ];go_wp2_with fail;have fB:w.heap.size≤go:=by have:=bm.out;have:=am.out.size;omega
  have cW:w.heap.size+1+1≠go:=by have:=bm.out;have:=(Zpi eg).1;omega
  have q:=Zbp (cap:=2) (n:=u+b) ((((cz.out.set 0 (.int .u32 ((u:Int)+(b:Nat)))).set 1 (.int .u32 (((u:Int)+(b:Nat)) / 4294967296))).congr (g:=wrd (u+b)) (Zii nn))) (ZpD 2) nn (fun e=>by cases e);have cC:((w6.setCell ⟨go,0,none⟩ (.int .u32 ((u:Int)+(b:Nat)))).setCell ⟨go,1,none⟩ (.int .u32 (((u:Int)+(b:Nat)) / 4294967296))).heap[w.heap.size+1+1]? =some (.cells #[.string ⟨#[]⟩] 52 (0,0)):=(Zax _ _ cW).trans ((Zax _ _ cW).trans jD.out);have ay:Hid (Below w.heap.size w ((w6.setCell ⟨go,0,none⟩ (.int .u32 ((u:Int)+(b:Nat)))).setCell ⟨go,1,none⟩ (.int .u32 (((u:Int)+(b:Nat)) / 4294967296)))):=Zpe ((dB.out.setCell fB _).setCell fB _);generalize (w6.setCell ⟨go,0,none⟩ (.int .u32 ((u:Int)+(b:Nat)))).setCell ⟨go,1,none⟩ (.int .u32 (((u:Int)+(b:Nat)) / 4294967296))=w8 at *;have eJ:u+b=0+b:=by have:=hu.out;omega
  rw[eJ]at q;replace eJ:=Zpe eJ;refine q.mono ?_;rintro e w9 ⟨rfl,bP⟩;have ar:=(bP.block (w.heap.size+1+1) (Zpi cC).1).trans cC;have ny:w9.frozen? ⟨w.heap.size+1+1,0,none⟩=false:=by simp[World.frozen?,ar]
  have o8:w9.cell? ⟨w.heap.size+1+1,0,none⟩=some (.string ⟨#[]⟩):=by simp[World.cell?,ar]
  have dQ:=Zpe (ay.out.trans (bP.mono ay.out.size));unfold Zbx;generalize hT:(⟨(Zb5 (0+b)).toArray⟩:ByteArray)=T at *;have aG:((w9.setCell ⟨w.heap.size+1+1,0,none⟩ (.string T)).cell? ⟨w.heap.size+1+1,0,none⟩=some (.string T)):=by simp[World.cell?,Zag ar 0 _]
  replace aG:=Zpe aG;replace ar:=Zpe ar;clear q bP cC ay;go_wp2_with fail;exact bodyPost_ret (v:=.agg #[.string T]) (by simp[results,Tryz.results42,go_sem,aG.out]) rfl ⟨by rw[←hT] <;> rfl,dQ.out.setCell (by exact Nat.le_add_right_of_le (Nat.le_succ _)) _⟩
 ·clear nu uy
  go_wp2_with fail;obtain⟨go,bm⟩:∃go,go=w4.heap.size:=⟨_,rfl⟩;obtain⟨u,hu⟩:∃u:Nat,u=0:=⟨_,rfl⟩;have nn:u+a<256:=by omega
  have ho:ZbK (w4.alloc (.cells #[.int .u32 0,.int .u32 0] 146)) go 146 2 (Zd9 (fun _=>.int .u32 0) 0 (.int .u32 u)):=by rw[bm,hu];exact Zox w4
  have fK:(w4.alloc (.cells #[.int .u32 0,.int .u32 0] 146)).cell? ⟨g1,0,none⟩=some (.int .u32 (a:Nat)):=by exact((j6.below ((Zpr _ _).alloc (ZpD _) _)).cell (j:=0) (by omega)).1
  have eT:(w4.alloc (.cells #[.int .u32 0,.int .u32 0] 146)).heap[w.heap.size+1+1]? =some (.cells #[.string ⟨#[]⟩] 52 (0,0)):=by exact(Below.heap_alloc w4 _ _ (Zpi eg).1).trans eg
  have dP:Hid (Below w.heap.size w (w4.alloc (.cells #[.int .u32 0,.int .u32 0] 146))):=Zpe (by exact am.out.alloc am.out.size _)
  try rw[←bm]
  try simp only[←bm]
  generalize w4.alloc (.cells #[.int .u32 0,.int .u32 0] 146)=w5 at *;replace bm:=Zpe bm;replace hu:=Zpe hu;obtain⟨c0,z0⟩:=ho.cell (j:=0) (by omega);obtain⟨c1,z1⟩:=ho.cell (j:=1) (by omega);rw[show Zd9 (fun _=>Value.int .u32 0) 0 (.int .u32 u) 0= .int .u32 u from rfl]at c0;have F1:=Zpe fun (W:World) (hW:Ext w5 W)=>And.intro (hW.cell c0) (hW.cell fK)
  refine wp_loop_rounds 2 ?_;rw[rounds_succ];go_wp2_with fail
  (refine Zah (by kernel_rfl) (by kernel_rfl) ?_
   repeat (refine wpQuiet_step (fun K hK=>?_)
           go_simp
           first
            | (refine hK _ ?_;clear hK K)
            | (replace hK:=Zpe hK
               apply Exists.intro
               refine⟨fun wq hq=>?_,hK.out _ ?_⟩
               ·(obtain⟨f1,f2⟩:=F1.out wq hq)
                go_simp
                first
                 | done
                 | rfl
                 | exact⟨rfl,rfl⟩
                 | done
               clear hK K))
   refine wpQuiet_nil ?_)
  intro w6 eL;have cz:=ho.ext eL;have jD:=(eL.below.block _ (Zpi eT).1).trans eT;have dB:Hid (Below w.heap.size w w6):=Zpe (dP.out.trans (eL.below.mono dP.out.size));obtain⟨d0,e0⟩:=cz.cell (j:=0) (by omega);obtain⟨d1,e1⟩:=cz.cell (j:=1) (by omega);rw[show Zd9 (fun _=>Value.int .u32 0) 0 (.int .u32 u) 0= .int .u32 u from rfl]at d0;rw[show Zd9 (fun _=>Value.int .u32 0) 0 (.int .u32 u) 1= .int .u32 0 from rfl]at d1;replace cz:=Zpe cz;replace jD:=Zpe jD;clear F1 ho fK eT dP c0 z0 c1 z1 eL;go_wp2_with fail;rw[rounds_succ];go_wp2_with fail;have fB:w.heap.size≤go:=by have:=bm.out;have:=am.out.size;omega
  have cW:w.heap.size+1+1≠go:=by have:=bm.out;have:=(Zpi eg).1;omega
  have q:=Zbp (cap:=2) (n:=u+a) ((((cz.out.set 0 (.int .u32 ((u:Int)+(a:Nat)))).set 1 (.int .u32 (((u:Int)+(a:Nat)) / 4294967296))).congr (g:=wrd (u+a)) (Zii nn))) (ZpD 2) nn (fun e=>by cases e);have cC:((w6.setCell ⟨go,0,none⟩ (.int .u32 ((u:Int)+(a:Nat)))).setCell ⟨go,1,none⟩ (.int .u32 (((u:Int)+(a:Nat)) / 4294967296))).heap[w.heap.size+1+1]? =some (.cells #[.string ⟨#[]⟩] 52 (0,0)):=(Zax _ _ cW).trans ((Zax _ _ cW).trans jD.out);have ay:Hid (Below w.heap.size w ((w6.setCell ⟨go,0,none⟩ (.int .u32 ((u:Int)+(a:Nat)))).setCell ⟨go,1,none⟩ (.int .u32 (((u:Int)+(a:Nat)) / 4294967296)))):=Zpe ((dB.out.setCell fB _).setCell fB _);generalize (w6.setCell ⟨go,0,none⟩ (.int .u32 ((u:Int)+(a:Nat)))).setCell ⟨go,1,none⟩ (.int .u32 (((u:Int)+(a:Nat)) / 4294967296))=w8 at *;have eJ:u+a=a+0:=by have:=hu.out;omega
  rw[eJ]at q;replace eJ:=Zpe eJ;refine q.mono ?_;rintro e w9 ⟨rfl,bP⟩;have ar:=(bP.block (w.heap.size+1+1) (Zpi cC).1).trans cC;have ny:w9.frozen? ⟨w.heap.size+1+1,0,none⟩=false:=by simp[World.frozen?,ar]
  have o8:w9.cell? ⟨w.heap.size+1+1,0,none⟩=some (.string ⟨#[]⟩):=by simp[World.cell?,ar]
  have dQ:=Zpe (ay.out.trans (bP.mono ay.out.size));unfold Zbx;generalize hT:(⟨(Zb5 (a+0)).toArray⟩:ByteArray)=T at *;have aG:((w9.setCell ⟨w.heap.size+1+1,0,none⟩ (.string T)).cell? ⟨w.heap.size+1+1,0,none⟩=some (.string T)):=by simp[World.cell?,Zag ar 0 _]
  replace aG:=Zpe aG;replace ar:=Zpe ar;clear q bP cC ay;go_wp2_with fail;exact bodyPost_ret (v:=.agg #[.string T]) (by simp[results,Tryz.results42,go_sem,aG.out]) rfl ⟨by rw[←hT] <;> rfl,dQ.out.setCell (by exact Nat.le_add_right_of_le (Nat.le_succ _)) _⟩
 ·have cp2:=fun c1 c2=>Zhg w4.heap.size g2 c1 c2 b 0 2 (by omega) (w4.alloc (.cells #[.int .u32 0,.int .u32 0] 146)) ((Zox w4).cell (j:=0) (by omega)).1 ((Zox w4).cell (j:=0) (by omega)).2 ((bM.below ((Zpr _ _).alloc (ZpD _) _)).cell (j:=0) (by omega)).1
  clear nu uy uz;go_wp2_with fail;obtain⟨go,bm⟩:∃go,go=w4.heap.size:=⟨_,rfl⟩;obtain⟨u,hu⟩:∃u:Nat,u=b:=⟨_,rfl⟩;have nn:u+a<256:=by omega
  have ho:ZbK (w4.alloc (.cells #[.int .u32 (b:Nat),.int .u32 0] 146)) go 146 2 (Zd9 (fun _=>.int .u32 0) 0 (.int .u32 u)):=by rw[bm,hu];exact ZoY w4 b
  have fK:(w4.alloc (.cells #[.int .u32 (b:Nat),.int .u32 0] 146)).cell? ⟨g1,0,none⟩=some (.int .u32 (a:Nat)):=by exact((j6.below ((Zpr _ _).alloc (ZpD _) _)).cell (j:=0) (by omega)).1
  have eT:(w4.alloc (.cells #[.int .u32 (b:Nat),.int .u32 0] 146)).heap[w.heap.size+1+1]? =some (.cells #[.string ⟨#[]⟩] 52 (0,0)):=by exact(Below.heap_alloc w4 _ _ (Zpi eg).1).trans eg
  have dP:Hid (Below w.heap.size w (w4.alloc (.cells #[.int .u32 (b:Nat),.int .u32 0] 146))):=Zpe (by exact am.out.alloc am.out.size _)
  try rw[←bm]
  try simp only[←bm]
  generalize w4.alloc (.cells #[.int .u32 (b:Nat),.int .u32 0] 146)=w5 at *;replace bm:=Zpe bm;replace hu:=Zpe hu;obtain⟨c0,z0⟩:=ho.cell (j:=0) (by omega);obtain⟨c1,z1⟩:=ho.cell (j:=1) (by omega);rw[show Zd9 (fun _=>Value.int .u32 0) 0 (.int .u32 u) 0= .int .u32 u from rfl]at c0;have F1:=Zpe fun (W:World) (hW:Ext w5 W)=>And.intro (hW.cell c0) (hW.cell fK)
  refine wp_loop_rounds 2 ?_;rw[rounds_succ];go_wp2_with fail
  (refine Zah (by kernel_rfl) (by kernel_rfl) ?_
   repeat (refine wpQuiet_step (fun K hK=>?_)
           go_simp
           first
            | (refine hK _ ?_;clear hK K)
            | (replace hK:=Zpe hK
               apply Exists.intro
               refine⟨fun wq hq=>?_,hK.out _ ?_⟩
               ·(obtain⟨f1,f2⟩:=F1.out wq hq)
                go_simp
                first
                 | done
                 | rfl
                 | exact⟨rfl,rfl⟩
                 | done
               clear hK K))
   refine wpQuiet_nil ?_)
  intro w6 eL;have cz:=ho.ext eL;have jD:=(eL.below.block _ (Zpi eT).1).trans eT;have dB:Hid (Below w.heap.size w w6):=Zpe (dP.out.trans (eL.below.mono dP.out.size));obtain⟨d0,e0⟩:=cz.cell (j:=0) (by omega);obtain⟨d1,e1⟩:=cz.cell (j:=1) (by omega);rw[show Zd9 (fun _=>Value.int .u32 0) 0 (.int .u32 u) 0= .int .u32 u from rfl]at d0;rw[show Zd9 (fun _=>Value.int .u32 0) 0 (.int .u32 u) 1= .int .u32 0 from rfl]at d1;replace cz:=Zpe cz;replace jD:=Zpe jD;clear F1 ho fK eT dP c0 z0 c1 z1 eL;go_wp2_with fail;rw[rounds_succ];go_wp2_with fail;have fB:w.heap.size≤go:=by have:=bm.out;have:=am.out.size;omega
  have cW:w.heap.size+1+1≠go:=by have:=bm.out;have:=(Zpi eg).1;omega
  have q:=Zbp (cap:=2) (n:=u+a) ((((cz.out.set 0 (.int .u32 ((u:Int)+(a:Nat)))).set 1 (.int .u32 (((u:Int)+(a:Nat)) / 4294967296))).congr (g:=wrd (u+a)) (Zii nn))) (ZpD 2) nn (fun e=>by cases e);have cC:((w6.setCell ⟨go,0,none⟩ (.int .u32 ((u:Int)+(a:Nat)))).setCell ⟨go,1,none⟩ (.int .u32 (((u:Int)+(a:Nat)) / 4294967296))).heap[w.heap.size+1+1]? =some (.cells #[.string ⟨#[]⟩] 52 (0,0)):=(Zax _ _ cW).trans ((Zax _ _ cW).trans jD.out);have ay:Hid (Below w.heap.size w ((w6.setCell ⟨go,0,none⟩ (.int .u32 ((u:Int)+(a:Nat)))).setCell ⟨go,1,none⟩ (.int .u32 (((u:Int)+(a:Nat)) / 4294967296)))):=Zpe ((dB.out.setCell fB _).setCell fB _);generalize (w6.setCell ⟨go,0,none⟩ (.int .u32 ((u:Int)+(a:Nat)))).setCell ⟨go,1,none⟩ (.int .u32 (((u:Int)+(a:Nat)) / 4294967296))=w8 at *;have eJ:u+a=a+b:=by have:=hu.out;omega
  rw[eJ]at q;replace eJ:=Zpe eJ;refine q.mono ?_;rintro e w9 ⟨rfl,bP⟩;have ar:=(bP.block (w.heap.size+1+1) (Zpi cC).1).trans cC;have ny:w9.frozen? ⟨w.heap.size+1+1,0,none⟩=false:=by simp[World.frozen?,ar]
  have o8:w9.cell? ⟨w.heap.size+1+1,0,none⟩=some (.string ⟨#[]⟩):=by simp[World.cell?,ar]
  have dQ:=Zpe (ay.out.trans (bP.mono ay.out.size));unfold Zbx;generalize hT:(⟨(Zb5 (a+b)).toArray⟩:ByteArray)=T at *;have aG:((w9.setCell ⟨w.heap.size+1+1,0,none⟩ (.string T)).cell? ⟨w.heap.size+1+1,0,none⟩=some (.string T)):=by simp[World.cell?,Zag ar 0 _]
  replace aG:=Zpe aG;replace ar:=Zpe ar;clear q bP cC ay;go_wp2_with fail;exact bodyPost_ret (v:=.agg #[.string T]) (by simp[results,Tryz.results42,go_sem,aG.out]) rfl ⟨by rw[←hT] <;> rfl,dQ.out.setCell (by exact Nat.le_add_right_of_le (Nat.le_succ _)) _⟩
end Go.Proofs.YtmnjakejhbpkoaaGreatDoor
