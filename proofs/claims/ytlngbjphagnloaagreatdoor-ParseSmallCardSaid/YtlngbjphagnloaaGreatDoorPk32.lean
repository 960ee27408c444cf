/- Merged texts of the walks and of the plain laws on which the statement leans.-/
import Derived.Test.YtlngbjphagnloaaGreatDoorPk1
import Derived.Test.YtlngbjphagnloaaGreatDoorPk31
import Derived.Test.YtlngbjphagnloaaGreatDoorPk10
import Derived.Test.YtlngbjphagnloaaGreatDoorPk15
import Derived.Test.YtlngbjphagnloaaGreatDoorPk16
set_option maxHeartbeats 4000000
set_option maxRecDepth 100000
namespace Go.Proofs.YtlngbjphagnloaaGreatDoor
open Go.Proofs.Tryz
open Go.RowKit
attribute [local go_sem] zax.cell
def zoy {α:Type} (rb:Nat) (ts:List Tok) (W:World) (conv:α→List Value→Value) (deep:α→List Dat) (x:α×InS) (e:Ending) (W':World):Prop:=
 ∃us,e= .returned (conv x.1 us)∧RIn rb ts x.2 W'∧zam (fun k=>k=rb) W W'∧zaf W' (fun b=>W.heap.size≤b) us (deep x.1)
theorem DAt.set {w:World} {G:Nat→Prop} {v:Value} {d:Dat} (h:DAt w G v d) {p:Addr} (hp: ∀b,G b→b≠p.block) (u:Value):DAt (w.setCell p u) G v d:=
 h.keep (by simp[World.setCell]) (fun b hb _=>Below.heap_setCell _ _ _ _ (hp b hb))
theorem zop (rb:Nat) (ts:List Tok) (s:InS) (W:World) (H:Hid (RIn rb ts s W)) (hts:ts.length≤1000000) (HT:Hid (zhK ts)):
 Calls prog 183 #[.pointer (some ⟨rb,0,none⟩)] W fun e W'=>e= .returned (zaL (zf1 s).1)∧RIn rb ts (zf1 s).2 W'∧zam (fun k=>k=rb) W W':=by
 have HY:=zaa (zdA.new H.out (zam.refl _ _) 53 [.string ⟨#[]⟩,.int .u8 0,.bool false,.int .i64 0,.int .i64 0,.int .i64 0]);have HR:=zaa (H.out.alloc (.cells #[.string ⟨#[]⟩,.int .u8 0,.bool false,.int .i64 0,.int .i64 0,.int .i64 0] 53));have HK:=zaa ((zam.refl (fun k=>k=rb) W).alloc (.cells #[.string ⟨#[]⟩,.int .u8 0,.bool false,.int .i64 0,.int .i64 0,.int .i64 0] 53))
 go_enter func183,ntmps183
 go_wp2_with fail;obtain⟨⟨b,s1⟩,h1⟩: ∃p,isR [111,117,116] s=p:=⟨_,rfl⟩;have HC:=zaa (zkt rb ⟨#[111,117,116]⟩ [111,117,116] rfl ts s _ HR hts);rw[h1] at HC;dsimp only at HC;refine HC.out.mono ?_;clear HC;rintro e w1 ⟨rfl,hr,hk⟩;replace HY:=zaa (HY.out.call hk);replace HR:=zaa hr;replace HK:=zaa (HK.out.trans hk);clear hr hk
 cases b with
 |true=>
  have HP:=zaa (zcv (zcv h1):zf1 s=_);clear h1;have HX:=zaa (zdA.new HR.out HK.out 53 [.string ⟨#[]⟩,.int .u8 0,.bool true,.int .i64 0,.int .i64 0,.int .i64 0]);have hy:=HY.out.below ((Below.refl _ w1).alloc (Nat.le_refl _) (.cells #[.string ⟨#[]⟩,.int .u8 0,.bool true,.int .i64 0,.int .i64 0,.int .i64 0] 53));have hr:=HR.out.alloc (.cells #[.string ⟨#[]⟩,.int .u8 0,.bool true,.int .i64 0,.int .i64 0,.int .i64 0] 53);have hk:=HK.out.alloc (.cells #[.string ⟨#[]⟩,.int .u8 0,.bool true,.int .i64 0,.int .i64 0,.int .i64 0] 53);have hxy:w1.heap.size≠W.heap.size:=fun e=>by have:=HY.out.lt;omega
  replace HY:=zaa hy;replace HR:=zaa hr;replace HK:=zaa hk;clear hy hr hk;go_wp2_with fail;generalize w1.heap.size=xb at *;obtain⟨s2,rfl⟩: ∃s2,s2=s1:=⟨_,rfl⟩;go_wp2_with fail;obtain⟨⟨a2,s3⟩,h⟩: ∃p,zb4 s2=p:=⟨_,rfl⟩;have HC:=zaa (zdI rb ts s2 _ HR hts);rw[h] at HC;dsimp only at HC;refine HC.out.mono ?_;clear HC;rintro e w1 ⟨rfl,hr,hk⟩;replace HP:=zaa (HP.out.trans (zcv h));replace HY:=zaa (HY.out.call hk);replace HX:=zaa (HX.out.call hk);replace HR:=zaa hr;replace HK:=zaa (HK.out.trans hk);clear hr hk h;obtain⟨ci,fi,hl⟩:=HX.out.fact 0 rfl;have hr:=HR.out.far (p:=⟨xb,0,none⟩) HX.out.low (.string ⟨a2.toArray⟩);have hk:=HK.out.setCell (p:=⟨xb,0,none⟩) (.inr HX.out.big) (.string ⟨a2.toArray⟩);have hy:=HY.out.far (p:=⟨xb,0,none⟩) hxy (.string ⟨a2.toArray⟩);have hx:=HX.out.put 0 (.string ⟨a2.toArray⟩);replace HX:=zaa hx;replace HY:=zaa hy;replace HR:=zaa hr;replace HK:=zaa hk;clear hr hk hx hy;go_wp2_with fail;clear ci fi hl;obtain⟨⟨a3,s4⟩,h⟩: ∃p,zba zbO s3=p:=⟨_,rfl⟩;have HC:=zaa (zb7 rb ⟨#[115,97,109,112,108,105,110,103,32,113,117,101,117,105,110,103]⟩ zbO zfH (by decide) (by decide) ts s3 _ HR hts);rw[h] at HC;dsimp only at HC;refine HC.out.mono ?_;clear HC;rintro e w1 ⟨rfl,hr,hk⟩;replace HP:=zaa (HP.out.trans (zcv h));replace HY:=zaa (HY.out.call hk);replace HX:=zaa (HX.out.call hk);replace HR:=zaa hr;replace HK:=zaa (HK.out.trans hk);clear hr hk h;obtain⟨ci,fi,hl⟩:=HX.out.fact 1 rfl;have hr:=HR.out.far (p:=⟨xb,1,none⟩) HX.out.low (.int .u8 (a3:Int));have hk:=HK.out.setCell (p:=⟨xb,1,none⟩) (.inr HX.out.big) (.int .u8 (a3:Int));have hy:=HY.out.far (p:=⟨xb,1,none⟩) hxy (.int .u8 (a3:Int));have hx:=HX.out.put 1 (.int .u8 (a3:Int));replace HX:=zaa hx;replace HY:=zaa hy;replace HR:=zaa hr;replace HK:=zaa hk;clear hr hk hx hy;go_wp2_with fail;clear ci fi hl;obtain⟨⟨a4,s5⟩,h⟩: ∃p,zbi [115,105,122,101] s4=p:=⟨_,rfl⟩;have HC:=zaa (zcI rb ⟨#[115,105,122,101]⟩ [115,105,122,101] rfl ts s4 _ HR hts HT);rw[h] at HC;dsimp only at HC;refine HC.out.mono ?_;clear HC;rintro e w1 ⟨rfl,hr,hk⟩;replace HP:=zaa (HP.out.trans (zcv h));replace HY:=zaa (HY.out.call hk);replace HX:=zaa (HX.out.call hk);replace HR:=zaa hr;replace HK:=zaa (HK.out.trans hk);clear hr hk h;obtain⟨c1,_,_⟩:=HX.out.fact 1 rfl;by_cases hk1:a3=1
  ·have HP:=zaa (HP.out.trans (congrFun (if_pos hk1) s5))
   have e1:((a3:Int)==1)=true:=by rw[hk1];rfl
   clear hk1;obtain⟨ci,fi,hl⟩:=HX.out.fact 3 rfl;have hr:=HR.out.far (p:=⟨xb,3,none⟩) HX.out.low (.int .i64 a4);have hk:=HK.out.setCell (p:=⟨xb,3,none⟩) (.inr HX.out.big) (.int .i64 a4);have hy:=HY.out.far (p:=⟨xb,3,none⟩) hxy (.int .i64 a4);have hx:=HX.out.put 3 (.int .i64 a4);replace HX:=zaa hx;replace HY:=zaa hy;replace HR:=zaa hr;replace HK:=zaa hk;clear hr hk hx hy;go_wp2_with fail;clear ci fi hl;clear c1 e1;obtain⟨⟨a5,s6⟩,h⟩: ∃p,zbi [114,101,102,114,101,115,104] s5=p:=⟨_,rfl⟩;have HC:=zaa (zcI rb ⟨#[114,101,102,114,101,115,104]⟩ [114,101,102,114,101,115,104] rfl ts s5 _ HR hts HT);rw[h] at HC;dsimp only at HC;refine HC.out.mono ?_;clear HC;rintro e w1 ⟨rfl,hr,hk⟩;replace HP:=zaa (HP.out.trans (zcv h));replace HY:=zaa (HY.out.call hk);replace HX:=zaa (HX.out.call hk);replace HR:=zaa hr;replace HK:=zaa (HK.out.trans hk);clear hr hk h;obtain⟨ci,fi,hl⟩:=HX.out.fact 5 rfl;have hr:=HR.out.far (p:=⟨xb,5,none⟩) HX.out.low (.int .i64 a5);have hk:=HK.out.setCell (p:=⟨xb,5,none⟩) (.inr HX.out.big) (.int .i64 a5);have hy:=HY.out.far (p:=⟨xb,5,none⟩) hxy (.int .i64 a5);have hx:=HX.out.put 5 (.int .i64 a5);replace HX:=zaa hx;replace HY:=zaa hy;replace HR:=zaa hr;replace HK:=zaa hk;clear hr hk hx hy;go_wp2_with fail;clear ci fi hl;obtain⟨⟨u,s7⟩,h⟩: ∃p,zaR [59] s6=p:=⟨_,rfl⟩;have HC:=zaa (zco rb ⟨#[59]⟩ [59] rfl ts s6 _ HR hts);rw[h] at HC;dsimp only at HC;refine HC.out.mono ?_;clear HC;rintro e w1 ⟨rfl,hr,hk⟩;replace HP:=zaa (HP.out.trans (zcv h));replace HY:=zaa (HY.out.call hk);replace HX:=zaa (HX.out.call hk);replace HR:=zaa hr;replace HK:=zaa (HK.out.trans hk);clear hr hk h;obtain⟨c0,c1,c2,c3,c4,c5,f0,f1,f2,f3,f4,f5⟩:=zex HX.out.at_ rfl;have hl:=HX.out.lt;obtain⟨d0,d1,d2,d3,d4,d5,g0,g1,g2,g3,g4,g5⟩:=zex HY.out.at_ rfl;have hly:=HY.out.lt;go_wp2_with fail;refine bodyPost_ret (v:=zaL ⟨a2,a3,true,a4,0,a5⟩) (by simp[results,Tryz.results183,go_sem,zaL,zbj,d0,d1,d2,d3,d4,d5]) rfl ?_;rw[show zf1 s=(⟨a2,a3,true,a4,0,a5⟩,s7) from HP.out];exact⟨rfl,by repeat(first|refine RIn.far ?_ HY.out.low _|exact HR.out),by repeat(first|refine zam.setCell ?_ (.inr HY.out.big) _|exact HK.out)⟩
  ·have HP:=zaa (HP.out.trans (congrFun (if_neg hk1) s5))
   have e1:((a3:Int)==1)=false:=by simp;omega
   clear hk1;obtain⟨ci,fi,hl⟩:=HX.out.fact 3 rfl;have hr:=HR.out.far (p:=⟨xb,3,none⟩) HX.out.low (.int .i64 a4);have hk:=HK.out.setCell (p:=⟨xb,3,none⟩) (.inr HX.out.big) (.int .i64 a4);have hy:=HY.out.far (p:=⟨xb,3,none⟩) hxy (.int .i64 a4);have hx:=HX.out.put 3 (.int .i64 a4);replace HX:=zaa hx;replace HY:=zaa hy;replace HR:=zaa hr;replace HK:=zaa hk;clear hr hk hx hy;go_wp2_with fail;clear ci fi hl;clear c1 e1;obtain⟨⟨a5,s6⟩,h⟩: ∃p,zbi [100,101,112,116,104] s5=p:=⟨_,rfl⟩;have HC:=zaa (zcI rb ⟨#[100,101,112,116,104]⟩ [100,101,112,116,104] rfl ts s5 _ HR hts HT);rw[h] at HC;dsimp only at HC;refine HC.out.mono ?_;clear HC;rintro e w1 ⟨rfl,hr,hk⟩;replace HP:=zaa (HP.out.trans (zcv h));replace HY:=zaa (HY.out.call hk);replace HX:=zaa (HX.out.call hk);replace HR:=zaa hr;replace HK:=zaa (HK.out.trans hk);clear hr hk h;obtain⟨ci,fi,hl⟩:=HX.out.fact 4 rfl;have hr:=HR.out.far (p:=⟨xb,4,none⟩) HX.out.low (.int .i64 a5);have hk:=HK.out.setCell (p:=⟨xb,4,none⟩) (.inr HX.out.big) (.int .i64 a5);have hy:=HY.out.far (p:=⟨xb,4,none⟩) hxy (.int .i64 a5);have hx:=HX.out.put 4 (.int .i64 a5);replace HX:=zaa hx;replace HY:=zaa hy;replace HR:=zaa hr;replace HK:=zaa hk;clear hr hk hx hy;go_wp2_with fail;clear ci fi hl;obtain⟨⟨u,s7⟩,h⟩: ∃p,zaR [59] s6=p:=⟨_,rfl⟩;have HC:=zaa (zco rb ⟨#[59]⟩ [59] rfl ts s6 _ HR hts);rw[h] at HC;dsimp only at HC;refine HC.out.mono ?_;clear HC;rintro e w1 ⟨rfl,hr,hk⟩;replace HP:=zaa (HP.out.trans (zcv h));replace HY:=zaa (HY.out.call hk);replace HX:=zaa (HX.out.call hk);replace HR:=zaa hr;replace HK:=zaa (HK.out.trans hk);clear hr hk h;obtain⟨c0,c1,c2,c3,c4,c5,f0,f1,f2,f3,f4,f5⟩:=zex HX.out.at_ rfl;have hl:=HX.out.lt;obtain⟨d0,d1,d2,d3,d4,d5,g0,g1,g2,g3,g4,g5⟩:=zex HY.out.at_ rfl;have hly:=HY.out.lt;go_wp2_with fail;refine bodyPost_ret (v:=zaL ⟨a2,a3,true,a4,a5,0⟩) (by simp[results,Tryz.results183,go_sem,zaL,zbj,d0,d1,d2,d3,d4,d5]) rfl ?_;rw[show zf1 s=(⟨a2,a3,true,a4,a5,0⟩,s7) from HP.out];exact⟨rfl,by repeat(first|refine RIn.far ?_ HY.out.low _|exact HR.out),by repeat(first|refine zam.setCell ?_ (.inr HY.out.big) _|exact HK.out)⟩
 |false=>
  have HX:=zaa (zdA.new HR.out HK.out 53 [.string ⟨#[]⟩,.int .u8 0,.bool false,.int .i64 0,.int .i64 0,.int .i64 0]);have hy:=HY.out.below ((Below.refl _ w1).alloc (Nat.le_refl _) (.cells #[.string ⟨#[]⟩,.int .u8 0,.bool false,.int .i64 0,.int .i64 0,.int .i64 0] 53));have hr:=HR.out.alloc (.cells #[.string ⟨#[]⟩,.int .u8 0,.bool false,.int .i64 0,.int .i64 0,.int .i64 0] 53);have hk:=HK.out.alloc (.cells #[.string ⟨#[]⟩,.int .u8 0,.bool false,.int .i64 0,.int .i64 0,.int .i64 0] 53);have hxy:w1.heap.size≠W.heap.size:=fun e=>by have:=HY.out.lt;omega
  replace HY:=zaa hy;replace HR:=zaa hr;replace HK:=zaa hk;clear hy hr hk;go_wp2_with fail;generalize w1.heap.size=xb at *;obtain⟨⟨u,s2⟩,h2⟩: ∃p,zaR [105,110] s1=p:=⟨_,rfl⟩;have HC:=zaa (zco rb ⟨#[105,110]⟩ [105,110] rfl ts s1 _ HR hts);rw[h2] at HC;dsimp only at HC;refine HC.out.mono ?_;clear HC;rintro e w1 ⟨rfl,hr,hk⟩;have HP:=zaa (zcv ((zcv h1).trans (zcv h2)):zf1 s=_);have HY:=zaa (HY.out.call hk);have HX:=zaa (HX.out.call hk);have HR:=zaa hr;have HK:=zaa (HK.out.trans hk);clear hr hk h1 h2;go_wp2_with fail;obtain⟨⟨a2,s3⟩,h⟩: ∃p,zb4 s2=p:=⟨_,rfl⟩;have HC:=zaa (zdI rb ts s2 _ HR hts);rw[h] at HC;dsimp only at HC;refine HC.out.mono ?_;clear HC;rintro e w1 ⟨rfl,hr,hk⟩;replace HP:=zaa (HP.out.trans (zcv h));replace HY:=zaa (HY.out.call hk);replace HX:=zaa (HX.out.call hk);replace HR:=zaa hr;replace HK:=zaa (HK.out.trans hk);clear hr hk h;obtain⟨ci,fi,hl⟩:=HX.out.fact 0 rfl;have hr:=HR.out.far (p:=⟨xb,0,none⟩) HX.out.low (.string ⟨a2.toArray⟩);have hk:=HK.out.setCell (p:=⟨xb,0,none⟩) (.inr HX.out.big) (.string ⟨a2.toArray⟩);have hy:=HY.out.far (p:=⟨xb,0,none⟩) hxy (.string ⟨a2.toArray⟩);have hx:=HX.out.put 0 (.string ⟨a2.toArray⟩);replace HX:=zaa hx;replace HY:=zaa hy;replace HR:=zaa hr;replace HK:=zaa hk;clear hr hk hx hy;go_wp2_with fail;clear ci fi hl;obtain⟨⟨a3,s4⟩,h⟩: ∃p,zba zbO s3=p:=⟨_,rfl⟩;have HC:=zaa (zb7 rb ⟨#[115,97,109,112,108,105,110,103,32,113,117,101,117,105,110,103]⟩ zbO zfH (by decide) (by decide) ts s3 _ HR hts);rw[h] at HC;dsimp only at HC;refine HC.out.mono ?_;clear HC;rintro e w1 ⟨rfl,hr,hk⟩;replace HP:=zaa (HP.out.trans (zcv h));replace HY:=zaa (HY.out.call hk);replace HX:=zaa (HX.out.call hk);replace HR:=zaa hr;replace HK:=zaa (HK.out.trans hk);clear hr hk h;obtain⟨ci,fi,hl⟩:=HX.out.fact 1 rfl;have hr:=HR.out.far (p:=⟨xb,1,none⟩) HX.out.low (.int .u8 (a3:Int));have hk:=HK.out.setCell (p:=⟨xb,1,none⟩) (.inr HX.out.big) (.int .u8 (a3:Int));have hy:=HY.out.far (p:=⟨xb,1,none⟩) hxy (.int .u8 (a3:Int));have hx:=HX.out.put 1 (.int .u8 (a3:Int));replace HX:=zaa hx;replace HY:=zaa hy;replace HR:=zaa hr;replace HK:=zaa hk;clear hr hk hx hy;go_wp2_with fail;clear ci fi hl;obtain⟨⟨a4,s5⟩,h⟩: ∃p,zbi [115,105,122,101] s4=p:=⟨_,rfl⟩;have HC:=zaa (zcI rb ⟨#[115,105,122,101]⟩ [115,105,122,101] rfl ts s4 _ HR hts HT);rw[h] at HC;dsimp only at HC;refine HC.out.mono ?_;clear HC;rintro e w1 ⟨rfl,hr,hk⟩;replace HP:=zaa (HP.out.trans (zcv h));replace HY:=zaa (HY.out.call hk);replace HX:=zaa (HX.out.call hk);replace HR:=zaa hr;replace HK:=zaa (HK.out.trans hk);clear hr hk h;obtain⟨c1,_,_⟩:=HX.out.fact 1 rfl;by_cases hk1:a3=1
  ·have HP:=zaa (HP.out.trans (congrFun (if_pos hk1) s5))
   have e1:((a3:Int)==1)=true:=by rw[hk1];rfl
   clear hk1;obtain⟨ci,fi,hl⟩:=HX.out.fact 3 rfl;have hr:=HR.out.far (p:=⟨xb,3,none⟩) HX.out.low (.int .i64 a4);have hk:=HK.out.setCell (p:=⟨xb,3,none⟩) (.inr HX.out.big) (.int .i64 a4);have hy:=HY.out.far (p:=⟨xb,3,none⟩) hxy (.int .i64 a4);have hx:=HX.out.put 3 (.int .i64 a4);replace HX:=zaa hx;replace HY:=zaa hy;replace HR:=zaa hr;replace HK:=zaa hk;clear hr hk hx hy;go_wp2_with fail;clear ci fi hl;clear c1 e1;obtain⟨⟨a5,s6⟩,h⟩: ∃p,zbi [114,101,102,114,101,115,104] s5=p:=⟨_,rfl⟩;have HC:=zaa (zcI rb ⟨#[114,101,102,114,101,115,104]⟩ [114,101,102,114,101,115,104] rfl ts s5 _ HR hts HT);rw[h] at HC;dsimp only at HC;refine HC.out.mono ?_;clear HC;rintro e w1 ⟨rfl,hr,hk⟩;replace HP:=zaa (HP.out.trans (zcv h));replace HY:=zaa (HY.out.call hk);replace HX:=zaa (HX.out.call hk);replace HR:=zaa hr;replace HK:=zaa (HK.out.trans hk);clear hr hk h;obtain⟨ci,fi,hl⟩:=HX.out.fact 5 rfl;have hr:=HR.out.far (p:=⟨xb,5,none⟩) HX.out.low (.int .i64 a5);have hk:=HK.out.setCell (p:=⟨xb,5,none⟩) (.inr HX.out.big) (.int .i64 a5);have hy:=HY.out.far (p:=⟨xb,5,none⟩) hxy (.int .i64 a5);have hx:=HX.out.put 5 (.int .i64 a5);replace HX:=zaa hx;replace HY:=zaa hy;replace HR:=zaa hr;replace HK:=zaa hk;clear hr hk hx hy;go_wp2_with fail;clear ci fi hl;obtain⟨⟨u,s7⟩,h⟩: ∃p,zaR [59] s6=p:=⟨_,rfl⟩;have HC:=zaa (zco rb ⟨#[59]⟩ [59] rfl ts s6 _ HR hts);rw[h] at HC;dsimp only at HC;refine HC.out.mono ?_;clear HC;rintro e w1 ⟨rfl,hr,hk⟩;replace HP:=zaa (HP.out.trans (zcv h));replace HY:=zaa (HY.out.call hk);replace HX:=zaa (HX.out.call hk);replace HR:=zaa hr;replace HK:=zaa (HK.out.trans hk);clear hr hk h;obtain⟨c0,c1,c2,c3,c4,c5,f0,f1,f2,f3,f4,f5⟩:=zex HX.out.at_ rfl;have hl:=HX.out.lt;obtain⟨d0,d1,d2,d3,d4,d5,g0,g1,g2,g3,g4,g5⟩:=zex HY.out.at_ rfl;have hly:=HY.out.lt;go_wp2_with fail;refine bodyPost_ret (v:=zaL ⟨a2,a3,false,a4,0,a5⟩) (by simp[results,Tryz.results183,go_sem,zaL,zbj,d0,d1,d2,d3,d4,d5]) rfl ?_;rw[show zf1 s=(⟨a2,a3,false,a4,0,a5⟩,s7) from HP.out];exact⟨rfl,by repeat(first|refine RIn.far ?_ HY.out.low _|exact HR.out),by repeat(first|refine zam.setCell ?_ (.inr HY.out.big) _|exact HK.out)⟩
  ·have HP:=zaa (HP.out.trans (congrFun (if_neg hk1) s5))
   have e1:((a3:Int)==1)=false:=by simp;omega
   clear hk1;obtain⟨ci,fi,hl⟩:=HX.out.fact 3 rfl;have hr:=HR.out.far (p:=⟨xb,3,none⟩) HX.out.low (.int .i64 a4);have hk:=HK.out.setCell (p:=⟨xb,3,none⟩) (.inr HX.out.big) (.int .i64 a4);have hy:=HY.out.far (p:=⟨xb,3,none⟩) hxy (.int .i64 a4);have hx:=HX.out.put 3 (.int .i64 a4);replace HX:=zaa hx;replace HY:=zaa hy;replace HR:=zaa hr;replace HK:=zaa hk;clear hr hk hx hy;go_wp2_with fail;clear ci fi hl;clear c1 e1;obtain⟨⟨a5,s6⟩,h⟩: ∃p,zbi [100,101,112,116,104] s5=p:=⟨_,rfl⟩;have HC:=zaa (zcI rb ⟨#[100,101,112,116,104]⟩ [100,101,112,116,104] rfl ts s5 _ HR hts HT);rw[h] at HC;dsimp only at HC;refine HC.out.mono ?_;clear HC;rintro e w1 ⟨rfl,hr,hk⟩;replace HP:=zaa (HP.out.trans (zcv h));replace HY:=zaa (HY.out.call hk);replace HX:=zaa (HX.out.call hk);replace HR:=zaa hr;replace HK:=zaa (HK.out.trans hk);clear hr hk h;obtain⟨ci,fi,hl⟩:=HX.out.fact 4 rfl;have hr:=HR.out.far (p:=⟨xb,4,none⟩) HX.out.low (.int .i64 a5);have hk:=HK.out.setCell (p:=⟨xb,4,none⟩) (.inr HX.out.big) (.int .i64 a5);have hy:=HY.out.far (p:=⟨xb,4,none⟩) hxy (.int .i64 a5);have hx:=HX.out.put 4 (.int .i64 a5);replace HX:=zaa hx;replace HY:=zaa hy;replace HR:=zaa hr;replace HK:=zaa hk;clear hr hk hx hy;go_wp2_with fail;clear ci fi hl;obtain⟨⟨u,s7⟩,h⟩: ∃p,zaR [59] s6=p:=⟨_,rfl⟩;have HC:=zaa (zco rb ⟨#[59]⟩ [59] rfl ts s6 _ HR hts);rw[h] at HC;dsimp only at HC;refine HC.out.mono ?_;clear HC;rintro e w1 ⟨rfl,hr,hk⟩;replace HP:=zaa (HP.out.trans (zcv h));replace HY:=zaa (HY.out.call hk);replace HX:=zaa (HX.out.call hk);replace HR:=zaa hr;replace HK:=zaa (HK.out.trans hk);clear hr hk h;obtain⟨c0,c1,c2,c3,c4,c5,f0,f1,f2,f3,f4,f5⟩:=zex HX.out.at_ rfl;have hl:=HX.out.lt;obtain⟨d0,d1,d2,d3,d4,d5,g0,g1,g2,g3,g4,g5⟩:=zex HY.out.at_ rfl;have hly:=HY.out.lt;go_wp2_with fail;refine bodyPost_ret (v:=zaL ⟨a2,a3,false,a4,a5,0⟩) (by simp[results,Tryz.results183,go_sem,zaL,zbj,d0,d1,d2,d3,d4,d5]) rfl ?_;rw[show zf1 s=(⟨a2,a3,false,a4,a5,0⟩,s7) from HP.out];exact⟨rfl,by repeat(first|refine RIn.far ?_ HY.out.low _|exact HR.out),by repeat(first|refine zam.setCell ?_ (.inr HY.out.big) _|exact HK.out)⟩
def zlD (x:zaI):Value:= .agg #[zbj x.module,zbj x.part,.int .u8 (x.fault:Int),.int .u8 (x.level:Int),.int .u8 (x.do_:Int)]
theorem znr (rb:Nat) (ts:List Tok) (s:InS) (W:World) (H:Hid (RIn rb ts s W)) (hts:ts.length≤1000000):
 Calls prog 132 #[.pointer (some ⟨rb,0,none⟩)] W fun e W'=>e= .returned (zlD (zeS s).1)∧RIn rb ts (zeS s).2 W'∧zam (fun k=>k=rb) W W':=by
 have HY:=zaa (zdA.new H.out (zam.refl _ _) 57 [.string ⟨#[]⟩,.string ⟨#[]⟩,.int .u8 0,.int .u8 0,.int .u8 0]);have HR:=zaa (H.out.alloc (.cells #[.string ⟨#[]⟩,.string ⟨#[]⟩,.int .u8 0,.int .u8 0,.int .u8 0] 57));have HK:=zaa ((zam.refl (fun k=>k=rb) W).alloc (.cells #[.string ⟨#[]⟩,.string ⟨#[]⟩,.int .u8 0,.int .u8 0,.int .u8 0] 57))
 go_enter func132,ntmps132
 go_wp2_with fail;obtain⟨⟨a1,s1⟩,h1⟩: ∃p,zba zbG s=p:=⟨_,rfl⟩;have HC:=zaa (zb7 rb ⟨#[100,101,97,100,108,105,110,101,32,109,101,109,111,114,121,32,114,97,105,115,101,100,32,110,117,109,101,114,105,99,32,115,116,97,99,107,32,112,111,119,101,114,32,119,105,110,100,111,119]⟩ zbG ze9 (by decide) (by decide) ts s _ HR hts);rw[h1] at HC;dsimp only at HC;refine HC.out.mono ?_;clear HC;rintro e w1 ⟨rfl,hr,hk⟩;replace HY:=zaa (HY.out.call hk);replace HR:=zaa hr;replace HK:=zaa (HK.out.trans hk);clear hr hk;have HP:=zaa (zcv h1:zeS s=_);clear h1;have HX:=zaa (zdA.new HR.out HK.out 57 [.string ⟨#[]⟩,.string ⟨#[]⟩,.int .u8 (a1:Int),.int .u8 0,.int .u8 0]);have hy:=HY.out.below ((Below.refl _ w1).alloc (Nat.le_refl _) (.cells #[.string ⟨#[]⟩,.string ⟨#[]⟩,.int .u8 (a1:Int),.int .u8 0,.int .u8 0] 57));have hr:=HR.out.alloc (.cells #[.string ⟨#[]⟩,.string ⟨#[]⟩,.int .u8 (a1:Int),.int .u8 0,.int .u8 0] 57);have hk:=HK.out.alloc (.cells #[.string ⟨#[]⟩,.string ⟨#[]⟩,.int .u8 (a1:Int),.int .u8 0,.int .u8 0] 57);have hxy:w1.heap.size≠W.heap.size:=fun e=>by have:=HY.out.lt;omega
 replace HY:=zaa hy;replace HR:=zaa hr;replace HK:=zaa hk;clear hy hr hk;go_wp2_with fail;generalize w1.heap.size=xb at *;obtain⟨⟨b,s2⟩,h1⟩: ∃p,isR [109,111,100,117,108,101] s1=p:=⟨_,rfl⟩;have HC:=zaa (zkt rb ⟨#[109,111,100,117,108,101]⟩ [109,111,100,117,108,101] rfl ts s1 _ HR hts);rw[h1] at HC;dsimp only at HC;refine HC.out.mono ?_;clear HC;rintro e w1 ⟨rfl,hr,hk⟩;replace HY:=zaa (HY.out.call hk);replace HX:=zaa (HX.out.call hk);replace HR:=zaa hr;replace HK:=zaa (HK.out.trans hk);clear hr hk
 go_upto_if 8 with fail
 go_cut [] (fun wx=> ∃(m:List UInt8) (t:InS),Hid (zoE [109,111,100,117,108,101] s1=(m,t))∧Hid (RIn rb ts t wx)∧Hid (zam (fun k=>k=rb) W wx)∧Hid (zdA rb W xb 57 [.string ⟨m.toArray⟩,.string ⟨#[]⟩,.int .u8 (a1:Int),.int .u8 0,.int .u8 0] wx)∧Hid (zdA rb W W.heap.size 57 [.string ⟨#[]⟩,.string ⟨#[]⟩,.int .u8 0,.int .u8 0,.int .u8 0] wx))
 case first=>
  cases b with
  |false=>
   go_wp2_with fail;go_meet;exact⟨[],s2,zaa (zcv h1),HR,HK,HX,HY⟩
  |true=>
   go_wp2_with fail;obtain⟨⟨a,t'⟩,h2⟩: ∃p,zb4 s2=p:=⟨_,rfl⟩;have HC:=zaa (zdI rb ts s2 _ HR hts);rw[h2] at HC;dsimp only at HC;refine HC.out.mono ?_;clear HC;rintro e w1 ⟨rfl,hr,hk⟩;replace HY:=zaa (HY.out.call hk);replace HX:=zaa (HX.out.call hk);replace HR:=zaa hr;replace HK:=zaa (HK.out.trans hk);clear hr hk;obtain⟨ci,fi,hl⟩:=HX.out.fact 0 rfl;have hr:=HR.out.far (p:=⟨xb,0,none⟩) HX.out.low (.string ⟨a.toArray⟩);have hk:=HK.out.setCell (p:=⟨xb,0,none⟩) (.inr HX.out.big) (.string ⟨a.toArray⟩);have hy:=HY.out.far (p:=⟨xb,0,none⟩) hxy (.string ⟨a.toArray⟩);have hx:=HX.out.put 0 (.string ⟨a.toArray⟩);replace HX:=zaa hx;replace HY:=zaa hy;replace HR:=zaa hr;replace HK:=zaa hk;clear hr hk hx hy;go_wp2_with fail;clear ci fi hl;go_meet;exact⟨a,t',zaa ((zcv h1).trans h2),HR,HK,HX,HY⟩
 case rest=>
  obtain⟨m,s3,hm,HR,HK,HX,HY⟩:=hcut;have HP:=zaa (HP.out.trans (zcv hm.out));clear h1 hm;go_wp2_with fail;obtain⟨⟨b,s4⟩,h1⟩: ∃p,isR [112,97,114,116] s3=p:=⟨_,rfl⟩;have HC:=zaa (zkt rb ⟨#[112,97,114,116]⟩ [112,97,114,116] rfl ts s3 _ HR hts);rw[h1] at HC;dsimp only at HC;refine HC.out.mono ?_;clear HC;rintro e w1 ⟨rfl,hr,hk⟩;replace HY:=zaa (HY.out.call hk);replace HX:=zaa (HX.out.call hk);replace HR:=zaa hr;replace HK:=zaa (HK.out.trans hk);clear hr hk
  go_upto_if 13 with fail
  go_cut [] (fun wx=> ∃(p:List UInt8) (t:InS),Hid (zoE [112,97,114,116] s3=(p,t))∧Hid (RIn rb ts t wx)∧Hid (zam (fun k=>k=rb) W wx)∧Hid (zdA rb W xb 57 [.string ⟨m.toArray⟩,.string ⟨p.toArray⟩,.int .u8 (a1:Int),.int .u8 0,.int .u8 0] wx)∧Hid (zdA rb W W.heap.size 57 [.string ⟨#[]⟩,.string ⟨#[]⟩,.int .u8 0,.int .u8 0,.int .u8 0] wx))
  case first=>
   cases b with
   |false=>
    go_wp2_with fail;go_meet;exact⟨[],s4,zaa (zcv h1),HR,HK,HX,HY⟩
   |true=>
    go_wp2_with fail;obtain⟨⟨a,t'⟩,h2⟩: ∃p,zb4 s4=p:=⟨_,rfl⟩;have HC:=zaa (zdI rb ts s4 _ HR hts);rw[h2] at HC;dsimp only at HC;refine HC.out.mono ?_;clear HC;rintro e w1 ⟨rfl,hr,hk⟩;replace HY:=zaa (HY.out.call hk);replace HX:=zaa (HX.out.call hk);replace HR:=zaa hr;replace HK:=zaa (HK.out.trans hk);clear hr hk;obtain⟨ci,fi,hl⟩:=HX.out.fact 1 rfl;have hr:=HR.out.far (p:=⟨xb,1,none⟩) HX.out.low (.string ⟨a.toArray⟩);have hk:=HK.out.setCell (p:=⟨xb,1,none⟩) (.inr HX.out.big) (.string ⟨a.toArray⟩);have hy:=HY.out.far (p:=⟨xb,1,none⟩) hxy (.string ⟨a.toArray⟩);have hx:=HX.out.put 1 (.string ⟨a.toArray⟩);replace HX:=zaa hx;replace HY:=zaa hy;replace HR:=zaa hr;replace HK:=zaa hk;clear hr hk hx hy;go_wp2_with fail;clear ci fi hl;go_meet;exact⟨a,t',zaa ((zcv h1).trans h2),HR,HK,HX,HY⟩
  case rest=>
   obtain⟨p,s5,hm,HR,HK,HX,HY⟩:=hcut;have HP:=zaa (HP.out.trans (zcv hm.out));clear h1 hm;go_wp2_with fail;obtain⟨⟨u,s6⟩,h⟩: ∃p,zaR [108,101,118,101,108] s5=p:=⟨_,rfl⟩;have HC:=zaa (zco rb ⟨#[108,101,118,101,108]⟩ [108,101,118,101,108] rfl ts s5 _ HR hts);rw[h] at HC;dsimp only at HC;refine HC.out.mono ?_;clear HC;rintro e w1 ⟨rfl,hr,hk⟩;replace HP:=zaa (HP.out.trans (zcv h));replace HY:=zaa (HY.out.call hk);replace HX:=zaa (HX.out.call hk);replace HR:=zaa hr;replace HK:=zaa (HK.out.trans hk);clear hr hk h;go_wp2_with fail;obtain⟨⟨a6,s7⟩,h⟩: ∃p,zba zbH s6=p:=⟨_,rfl⟩;have HC:=zaa (zb7 rb ⟨#[112,114,111,99,101,115,115,32,112,97,114,116,32,109,111,100,117,108,101]⟩ zbH zeY (by decide) (by decide) ts s6 _ HR hts);rw[h] at HC;dsimp only at HC;refine HC.out.mono ?_;clear HC;rintro e w1 ⟨rfl,hr,hk⟩;replace HP:=zaa (HP.out.trans (zcv h));replace HY:=zaa (HY.out.call hk);replace HX:=zaa (HX.out.call hk);replace HR:=zaa hr;replace HK:=zaa (HK.out.trans hk);clear hr hk h;obtain⟨ci,fi,hl⟩:=HX.out.fact 3 rfl;have hr:=HR.out.far (p:=⟨xb,3,none⟩) HX.out.low (.int .u8 (a6:Int));have hk:=HK.out.setCell (p:=⟨xb,3,none⟩) (.inr HX.out.big) (.int .u8 (a6:Int));have hy:=HY.out.far (p:=⟨xb,3,none⟩) hxy (.int .u8 (a6:Int));have hx:=HX.out.put 3 (.int .u8 (a6:Int));replace HX:=zaa hx;replace HY:=zaa hy;replace HR:=zaa hr;replace HK:=zaa hk;clear hr hk hx hy;go_wp2_with fail;clear ci fi hl;obtain⟨⟨u,s8⟩,h⟩: ∃p,zaR [100,111] s7=p:=⟨_,rfl⟩;have HC:=zaa (zco rb ⟨#[100,111]⟩ [100,111] rfl ts s7 _ HR hts);rw[h] at HC;dsimp only at HC;refine HC.out.mono ?_;clear HC;rintro e w1 ⟨rfl,hr,hk⟩;replace HP:=zaa (HP.out.trans (zcv h));replace HY:=zaa (HY.out.call hk);replace HX:=zaa (HX.out.call hk);replace HR:=zaa hr;replace HK:=zaa (HK.out.trans hk);clear hr hk h;go_wp2_with fail;obtain⟨⟨a8,s9⟩,h⟩: ∃p,zba zbu s8=p:=⟨_,rfl⟩;have HC:=zaa (zb7 rb ⟨#[105,103,110,111,114,101,32,115,116,111,112,32,114,101,115,116,97,114,116,32,119,97,114,109,32,99,111,108,100,32,105,100,108,101,32,114,101,115,101,116,32,104,97,108,116]⟩ zbu zeo (by decide) (by decide) ts s8 _ HR hts);rw[h] at HC;dsimp only at HC;refine HC.out.mono ?_;clear HC;rintro e w1 ⟨rfl,hr,hk⟩;replace HP:=zaa (HP.out.trans (zcv h));replace HY:=zaa (HY.out.call hk);replace HX:=zaa (HX.out.call hk);replace HR:=zaa hr;replace HK:=zaa (HK.out.trans hk);clear hr hk h;obtain⟨ci,fi,hl⟩:=HX.out.fact 4 rfl;have hr:=HR.out.far (p:=⟨xb,4,none⟩) HX.out.low (.int .u8 (a8:Int));have hk:=HK.out.setCell (p:=⟨xb,4,none⟩) (.inr HX.out.big) (.int .u8 (a8:Int));have hy:=HY.out.far (p:=⟨xb,4,none⟩) hxy (.int .u8 (a8:Int));have hx:=HX.out.put 4 (.int .u8 (a8:Int));replace HX:=zaa hx;replace HY:=zaa hy;replace HR:=zaa hr;replace HK:=zaa hk;clear hr hk hx hy;go_wp2_with fail;clear ci fi hl;obtain⟨⟨u,sa⟩,h⟩: ∃p,zaR [59] s9=p:=⟨_,rfl⟩;have HC:=zaa (zco rb ⟨#[59]⟩ [59] rfl ts s9 _ HR hts);rw[h] at HC;dsimp only at HC;refine HC.out.mono ?_;clear HC;rintro e w1 ⟨rfl,hr,hk⟩;replace HP:=zaa (HP.out.trans (zcv h));replace HY:=zaa (HY.out.call hk);replace HX:=zaa (HX.out.call hk);replace HR:=zaa hr;replace HK:=zaa (HK.out.trans hk);clear hr hk h;obtain⟨c0,c1,c2,c3,c4,f0,f1,f2,f3,f4⟩:=zfy HX.out.at_ rfl;have hl:=HX.out.lt;obtain⟨d0,d1,d2,d3,d4,g0,g1,g2,g3,g4⟩:=zfy HY.out.at_ rfl;have hly:=HY.out.lt;go_wp2_with fail;refine bodyPost_ret (v:=zlD ⟨m,p,a1,a6,a8⟩) (by simp[results,Tryz.results132,go_sem,zlD,zbj,d0,d1,d2,d3,d4]) rfl ?_;rw[show zeS s=(⟨m,p,a1,a6,a8⟩,sa) from HP.out];exact⟨rfl,by repeat(first|refine RIn.far ?_ HY.out.low _|exact HR.out),by repeat(first|refine zam.setCell ?_ (.inr HY.out.big) _|exact HK.out)⟩
theorem zoj (rb:Nat) (ts:List Tok) (s:InS) (W:World) (H:Hid (RIn rb ts s W)) (hts:ts.length≤1000000) (HT:Hid (zhK ts)):
 Calls prog 182 #[.pointer (some ⟨rb,0,none⟩)] W (zoy rb ts W zch zcH (zhW s)):=by
 have HY:=zaa (zdA.new H.out (zam.refl _ _) 67 [.string ⟨#[]⟩,.int .i64 0,.int .i64 0,.int .i64 0,.slice none 0 0]);have HR:=zaa (H.out.alloc (.cells #[.string ⟨#[]⟩,.int .i64 0,.int .i64 0,.int .i64 0,.slice none 0 0] 67));have HK:=zaa ((zam.refl (fun k=>k=rb) W).alloc (.cells #[.string ⟨#[]⟩,.int .i64 0,.int .i64 0,.int .i64 0,.slice none 0 0] 67))
 go_enter func182,ntmps182
 go_wp2_with fail;obtain⟨⟨a1,s1⟩,h1⟩: ∃p,zb4 s=p:=⟨_,rfl⟩;have HC:=zaa (zdI rb ts s _ HR hts);rw[h1] at HC;dsimp only at HC;refine HC.out.mono ?_;clear HC;rintro e w1 ⟨rfl,hr,hk⟩;replace HY:=zaa (HY.out.call hk);replace HR:=zaa hr;replace HK:=zaa (HK.out.trans hk);clear hr hk;have HP:=zaa (zcv h1:zhW s=_);clear h1;have HX:=zaa (zdA.new HR.out HK.out 67 [.string ⟨a1.toArray⟩,.int .i64 0,.int .i64 0,.int .i64 0,.slice none 0 0]);have hy:=HY.out.below ((Below.refl _ w1).alloc (Nat.le_refl _) (.cells #[.string ⟨a1.toArray⟩,.int .i64 0,.int .i64 0,.int .i64 0,.slice none 0 0] 67));have hr:=HR.out.alloc (.cells #[.string ⟨a1.toArray⟩,.int .i64 0,.int .i64 0,.int .i64 0,.slice none 0 0] 67);have hk:=HK.out.alloc (.cells #[.string ⟨a1.toArray⟩,.int .i64 0,.int .i64 0,.int .i64 0,.slice none 0 0] 67);have hxy:w1.heap.size≠W.heap.size:=fun e=>by have:=HY.out.lt;omega
 replace HY:=zaa hy;replace HR:=zaa hr;replace HK:=zaa hk;clear hy hr hk;go_wp2_with fail;generalize w1.heap.size=xb at *;obtain⟨⟨a2,s2⟩,h⟩: ∃p,zbi [112,114,105,111] s1=p:=⟨_,rfl⟩;have HC:=zaa (zcI rb ⟨#[112,114,105,111]⟩ [112,114,105,111] rfl ts s1 _ HR hts HT);rw[h] at HC;dsimp only at HC;refine HC.out.mono ?_;clear HC;rintro e w1 ⟨rfl,hr,hk⟩;replace HP:=zaa (HP.out.trans (zcv h));replace HY:=zaa (HY.out.call hk);replace HX:=zaa (HX.out.call hk);replace HR:=zaa hr;replace HK:=zaa (HK.out.trans hk);clear hr hk h;obtain⟨ci,fi,hl⟩:=HX.out.fact 1 rfl;have hr:=HR.out.far (p:=⟨xb,1,none⟩) HX.out.low (.int .i64 a2);have hk:=HK.out.setCell (p:=⟨xb,1,none⟩) (.inr HX.out.big) (.int .i64 a2);have hy:=HY.out.far (p:=⟨xb,1,none⟩) hxy (.int .i64 a2);have hx:=HX.out.put 1 (.int .i64 a2);replace HX:=zaa hx;replace HY:=zaa hy;replace HR:=zaa hr;replace HK:=zaa hk;clear hr hk hx hy;go_wp2_with fail;clear ci fi hl;obtain⟨⟨a3,s3⟩,h⟩: ∃p,zbi [112,101,114,105,111,100] s2=p:=⟨_,rfl⟩;have HC:=zaa (zcI rb ⟨#[112,101,114,105,111,100]⟩ [112,101,114,105,111,100] rfl ts s2 _ HR hts HT);rw[h] at HC;dsimp only at HC;refine HC.out.mono ?_;clear HC;rintro e w1 ⟨rfl,hr,hk⟩;replace HP:=zaa (HP.out.trans (zcv h));replace HY:=zaa (HY.out.call hk);replace HX:=zaa (HX.out.call hk);replace HR:=zaa hr;replace HK:=zaa (HK.out.trans hk);clear hr hk h;obtain⟨ci,fi,hl⟩:=HX.out.fact 2 rfl;have hr:=HR.out.far (p:=⟨xb,2,none⟩) HX.out.low (.int .i64 a3);have hk:=HK.out.setCell (p:=⟨xb,2,none⟩) (.inr HX.out.big) (.int .i64 a3);have hy:=HY.out.far (p:=⟨xb,2,none⟩) hxy (.int .i64 a3);have hx:=HX.out.put 2 (.int .i64 a3);replace HX:=zaa hx;replace HY:=zaa hy;replace HR:=zaa hr;replace HK:=zaa hk;clear hr hk hx hy;go_wp2_with fail;clear ci fi hl;obtain⟨⟨a4,s4⟩,h⟩: ∃p,zbi [108,105,109,105,116] s3=p:=⟨_,rfl⟩;have HC:=zaa (zcI rb ⟨#[108,105,109,105,116]⟩ [108,105,109,105,116] rfl ts s3 _ HR hts HT);rw[h] at HC;dsimp only at HC;refine HC.out.mono ?_;clear HC;rintro e w1 ⟨rfl,hr,hk⟩;replace HP:=zaa (HP.out.trans (zcv h));replace HY:=zaa (HY.out.call hk);replace HX:=zaa (HX.out.call hk);replace HR:=zaa hr;replace HK:=zaa (HK.out.trans hk);clear hr hk h;obtain⟨ci,fi,hl⟩:=HX.out.fact 3 rfl;have hr:=HR.out.far (p:=⟨xb,3,none⟩) HX.out.low (.int .i64 a4);have hk:=HK.out.setCell (p:=⟨xb,3,none⟩) (.inr HX.out.big) (.int .i64 a4);have hy:=HY.out.far (p:=⟨xb,3,none⟩) hxy (.int .i64 a4);have hx:=HX.out.put 3 (.int .i64 a4);replace HX:=zaa hx;replace HY:=zaa hy;replace HR:=zaa hr;replace HK:=zaa hk;clear hr hk hx hy;go_wp2_with fail;clear ci fi hl;obtain⟨⟨u,s5⟩,h⟩: ∃p,zaR [123] s4=p:=⟨_,rfl⟩;have HC:=zaa (zco rb ⟨#[123]⟩ [123] rfl ts s4 _ HR hts);rw[h] at HC;dsimp only at HC;refine HC.out.mono ?_;clear HC;rintro e w1 ⟨rfl,hr,hk⟩;replace HP:=zaa (HP.out.trans (zcv h));replace HY:=zaa (HY.out.call hk);replace HX:=zaa (HX.out.call hk);replace HR:=zaa hr;replace HK:=zaa (HK.out.trans hk);clear hr hk h;go_wp2_with fail;obtain⟨⟨l,s6⟩,h6⟩: ∃p,zdy s5=p:=⟨_,rfl⟩;have HC:=zaa (zgW rb ts s5 _ HR hts HT);rw[h6] at HC;dsimp only at HC;have hx1:=HX.out.lt;refine HC.out.mono ?_;clear HC;rintro e w2 ⟨v,rfl,hr,hk,ho⟩;obtain⟨A,q,rfl⟩:=zah ho;have HD:=zaa ((zcY (cells:=za5) (fun _=>rfl) ho).mono (H:=fun b=>xb<b) (fun b hb _=>Nat.lt_of_lt_of_le hx1 hb));have HP:=zaa (HP.out.trans (zcv h6));have HY:=zaa (HY.out.call hk);have HX:=zaa (HX.out.call hk);have HR:=zaa hr;have HK:=zaa (HK.out.trans hk);clear hr hk ho h6 hx1;have HD:=zaa (HD.out.set (p:=⟨xb,4,none⟩) (fun b hb e=>by dsimp only at e;omega) (.slice A l.length q));obtain⟨ci,fi,hl⟩:=HX.out.fact 4 rfl;have hr:=HR.out.far (p:=⟨xb,4,none⟩) HX.out.low (.slice A l.length q);have hk:=HK.out.setCell (p:=⟨xb,4,none⟩) (.inr HX.out.big) (.slice A l.length q);have hy:=HY.out.far (p:=⟨xb,4,none⟩) hxy (.slice A l.length q);have hx:=HX.out.put 4 (.slice A l.length q);replace HX:=zaa hx;replace HY:=zaa hy;replace HR:=zaa hr;replace HK:=zaa hk;clear hr hk hx hy;go_wp2_with fail;clear ci fi hl;obtain⟨⟨u,s7⟩,h⟩: ∃p,zaR [125] s6=p:=⟨_,rfl⟩;have HC:=zaa (zco rb ⟨#[125]⟩ [125] rfl ts s6 _ HR hts);rw[h] at HC;dsimp only at HC;refine HC.out.mono ?_;clear HC;rintro e w3 ⟨rfl,hr,hk⟩;have hlow:=HX.out.low;have HD:=zaa (HD.out.kept hk (fun b hb e=>by omega));have HP:=zaa (HP.out.trans (zcv h));have HY:=zaa (HY.out.call hk);have HX:=zaa (HX.out.call hk);have HR:=zaa hr;have HK:=zaa (HK.out.trans hk);clear hr hk h;obtain⟨c0,c1,c2,c3,c4,f0,f1,f2,f3,f4⟩:=zfy HX.out.at_ rfl;have hl:=HX.out.lt;obtain⟨d0,d1,d2,d3,d4,g0,g1,g2,g3,g4⟩:=zfy HY.out.at_ rfl;have hly:=HY.out.lt;go_wp2_with fail;refine bodyPost_ret (v:=zch ⟨a1,a2,a3,a4,l⟩ [.slice A l.length q]) (by simp[results,Tryz.results182,go_sem,zch,zbj,d0,d1,d2,d3,d4]) rfl ?_;rw[show zhW s=(⟨a1,a2,a3,a4,l⟩,s7) from HP.out];have hyx:=HX.out.big;refine⟨[.slice A l.length q],rfl,by repeat(first|refine RIn.far ?_ HY.out.low _|exact HR.out),by repeat(first|refine zam.setCell ?_ (.inr HY.out.big) _|exact HK.out),zaf.cons ?_ .nil⟩;refine DAt.mono (G:=fun b=>xb<b) ?_ (fun b hb _=>by omega)
 repeat(first|refine DAt.set ?_ (fun b hb e=>by dsimp only at e;omega) _|exact HD.out)
def zkY (G:Nat→Prop) (vs:List Value) (b:Nat):Prop:=G b∧ ∀u∈vs,u.ownBlock≠some b
structure zdp (w:World) (G:Nat→Prop) (vs:List Value) (rs:List zdx):Prop where
 len:vs.length=rs.length
 wide: ∀(k:Nat) (r:zdx),rs[k]? =some r→ ∀e∈r.es,e.length=r.size
 own: ∀(k:Nat) (v:Value) (r:zdx),vs[k]? =some v→rs[k]? =some r→(∀g,v.ownBlock=some g→G g)∧ ∃cs,w.ownsRow 0 r.t r.size v r.es.length cs∧zaf w (zkY G vs) cs r.es.flatten
 apart: ∀(k l:Nat) (u v:Value) (g:Nat),vs[k]? =some u→vs[l]? =some v→u.ownBlock=some g→v.ownBlock=some g→k=l
theorem zdp.keep {w w':World} {G:Nat→Prop} {vs:List Value} {rs:List zdx} (h:zdp w G vs rs) (hz:w.heap.size≤w'.heap.size) (hk: ∀b,G b→b<w.heap.size→w'.heap[b]? =w.heap[b]?):zdp w' G vs rs:=
 ⟨h.len,h.wide,fun k v r hv hr=>by
   obtain⟨hg,cs,ho,hc⟩:=h.own k v r hv hr;exact⟨hg,cs,zai ho (fun g hg' _=>hk g (hg g hg') (zaj ho hg').2),hc.keep hz (fun b hb hl=>hk b hb.1 hl)⟩,h.apart⟩
theorem zdp.lt {w:World} {G:Nat→Prop} {vs:List Value} {rs:List zdx} (h:zdp w G vs rs) {i:Nat} {u:Value} {g:Nat} (hu:vs[i]? =some u) (hg:u.ownBlock=some g):g<w.heap.size:=by
 have hi:i<rs.length:=by rw[←h.len];exact(List.getElem?_eq_some_iff.1 hu).1
 obtain⟨_,cs',ho,_⟩:=h.own i u rs[i] hu (List.getElem?_eq_getElem hi);exact(zaj ho hg).2
theorem zdp.put {w1 w2:World} {G:Nat→Prop} {k:Nat} {vs:List Value} {rs:List zdx} {v v':Value} {r r':zdx} {cs:List Value} (h:zdp w1 G vs rs) (hG: ∀b,w1.heap.size≤b→G b) (hv:vs[k]? =some v) (hr:rs[k]? =some r) (hw: ∀e∈r'.es,e.length=r'.size)
 (hown:w2.ownsRow 0 r'.t r'.size v' r'.es.length cs) (hc:zaf w2 (fun b=>zkY G vs b∧v'.ownBlock≠some b) cs r'.es.flatten) (hg:w1.grownBy w2 v.ownBlock) (hat:v'.ownBlock=v.ownBlock∨ ∀g,v'.ownBlock=some g→w1.heap.size≤g):zdp w2 G (vs.set k v') (rs.set k r'):=by
 have hvm:v∈vs:=List.mem_of_getElem? hv;have hK: ∀b,zkY G vs b→b<w1.heap.size→w2.heap[b]? =w1.heap[b]? :=fun b hb hl=>hg.block b hl (fun e=>hb.2 v hvm e.symm)
 have hat': ∀g,v'.ownBlock=some g→G g:=fun g e=>by
  rcases hat with e2|e2
  ·obtain⟨hq,_⟩:=h.own k v r hv hr
   exact hq g (e2.symm.trans e)
  ·exact hG g (e2 g e)
 refine⟨by simp[h.len],fun i x hx=> ?_,fun i u x hu hx=> ?_,fun i l u x g hu hx hug hxg=> ?_⟩
 ·rcases za0 hx with⟨rfl,_,rfl⟩|⟨_,hx⟩
  ·exact hw
  ·exact h.wide i x hx
 ·rcases za0 hu with⟨rfl,_,rfl⟩|⟨hik,hu⟩
  ·rcases za0 hx with⟨_,_,rfl⟩|⟨hne,_⟩
   ·refine⟨hat',cs,hown,hc.mono (fun b hb _=>⟨hb.1.1,fun y hy=> ?_⟩)⟩
    rcases List.mem_or_eq_of_mem_set hy with hy|rfl
    ·exact hb.1.2 y hy
    ·exact hb.2
   ·exact absurd rfl hne
  ·rcases za0 hx with⟨e,_,_⟩|⟨_,hx⟩
   ·exact absurd e hik
   ·obtain⟨hq,cs',ho,hc'⟩:=h.own i u x hu hx
    refine⟨hq,cs',zai ho (fun g hg' _=>hg.block g (zaj ho hg').2 (fun e=>hik (h.apart i k u v g hu hv hg' e.symm))),?_⟩;refine((hc'.mono (H:=fun b=>zkY G vs b∧b<w1.heap.size) (fun b hb hl=>⟨hb,hl⟩)).keep (w':=w2) hg.size (fun b hb hl=>hK b hb.1 hl)).mono (fun b hb _=>⟨hb.1.1,fun y hy=> ?_⟩);rcases List.mem_or_eq_of_mem_set hy with hy|rfl
    ·exact hb.1.2 y hy
    ·rcases hat with e|e
     ·rw[e];exact hb.1.2 v hvm
     ·intro e2;have:=e b e2;omega
 ·rcases za0 hu with⟨rfl,_,rfl⟩|⟨hik,hu'⟩
  ·rcases za0 hx with⟨rfl,_,_⟩|⟨hlk,hx'⟩
   ·rfl
   ·rcases hat with e|e
    ·exact h.apart _ l v x g hv hx' (e.symm.trans hug) hxg
    ·have:=e g hug
     have:=h.lt hx' hxg
     omega
  ·rcases za0 hx with⟨rfl,_,rfl⟩|⟨hlk,hx'⟩
   ·rcases hat with e|e
    ·exact h.apart i _ u v g hu' hv hug (e.symm.trans hxg)
    ·have:=e g hxg
     have:=h.lt hu' hug
     omega
   ·exact h.apart i l u x g hu' hx' hug hxg
theorem zdp.push {w1 w2:World} {G:Nat→Prop} {k:Nat} {vs:List Value} {rs:List zdx} {v v':Value} {r:zdx} {f:List Dat} {cs news:List Value} (h:zdp w1 G vs rs) (hG: ∀b,w1.heap.size≤b→G b) (hv:vs[k]? =some v) (hr:rs[k]? =some r) (hf:f.length=r.size)
 (hc:zaf w1 (zkY G vs) cs r.es.flatten) (hnew:zaf w1 (zkY G vs) news f) (hown:w2.ownsRow 0 r.t r.size v' (r.es.length+1) (cs++news)) (hg:w1.grownBy w2 v.ownBlock) (hat:v'.ownBlock=v.ownBlock∨v'.ownBlock=some w1.heap.size):zdp w2 G (vs.set k v') (rs.set k ⟨r.t,r.size,r.es++[f]⟩):=by
 have hvm:v∈vs:=List.mem_of_getElem? hv;refine h.put (r':=⟨r.t,r.size,r.es++[f]⟩) hG hv hr (fun e he=> ?_) (by simpa using hown) ?_ hg (hat.imp id (fun e g e2=>by rw[e] at e2;injection e2 with e2;omega))
 ·rcases List.mem_append.1 he with he|he
  ·exact h.wide k r hr e he
  ·rw[List.mem_singleton.1 he];exact hf
 ·have e:(r.es++[f]).flatten=r.es.flatten++f:=by simp
  show zaf w2 _ _ (r.es++[f]).flatten
  rw[e];refine(((hc.append hnew).mono (H:=fun b=>zkY G vs b∧b<w1.heap.size) (fun b hb hl=>⟨hb,hl⟩)).keep (w':=w2) hg.size (fun b hb hl=>hg.block b hl (fun e=>hb.1.2 v hvm e.symm))).mono (fun b hb _=>⟨hb.1,fun e2=> ?_⟩);rcases hat with e3|e3
  ·exact hb.1.2 v hvm (e3.symm.trans e2)
  ·rw[e3] at e2;injection e2 with e2;have:=hb.2;omega
theorem zdp.assign {w0 w:World} {G:Nat→Prop} {k:Nat} {vs:List Value} {rs:List zdx} {v':Value} {r':zdx} {cs:List Value} (h:zdp w0 G vs rs) (hG: ∀b,w0.heap.size≤b→G b) (hz:w0.heap.size≤w.heap.size) (hk: ∀b,G b→b<w0.heap.size→w.heap[b]? =w0.heap[b]?)
 (hw: ∀e∈r'.es,e.length=r'.size) (hown:w.ownsRow w0.heap.size r'.t r'.size v' r'.es.length cs) (hc:zaf w (fun b=>w0.heap.size≤b∧v'.ownBlock≠some b) cs r'.es.flatten):zdp w G (vs.set k v') (rs.set k r'):=by
 refine⟨by simp[h.len],fun i x hx=> ?_,fun i u x hu hx=> ?_,fun i l u x g hu hx hug hxg=> ?_⟩
 ·rcases za0 hx with⟨rfl,_,rfl⟩|⟨_,hx⟩
  ·exact hw
  ·exact h.wide i x hx
 ·rcases za0 hu with⟨rfl,_,rfl⟩|⟨hik,hu⟩
  ·rcases za0 hx with⟨_,_,rfl⟩|⟨hne,_⟩
   ·refine⟨fun g e=>hG g (zaj hown e).1,cs,zdP hown (Nat.zero_le _),hc.mono (fun b hb _=>⟨hG b hb.1,fun y hy=> ?_⟩)⟩
    rcases List.mem_or_eq_of_mem_set hy with hy|rfl
    ·intro e
     obtain⟨j,hj⟩:=List.getElem?_of_mem hy;have:=h.lt hj e;have:=hb.1
     omega
    ·exact hb.2
   ·exact absurd rfl hne
  ·rcases za0 hx with⟨e,_,_⟩|⟨_,hx⟩
   ·exact absurd e hik
   ·obtain⟨hq,cs',ho,hc'⟩:=h.own i u x hu hx
    refine⟨hq,cs',zai ho (fun g hg' _=>hk g (hq g hg') (zaj ho hg').2),?_⟩;refine((hc'.mono (H:=fun b=>zkY G vs b∧b<w0.heap.size) (fun b hb hl=>⟨hb,hl⟩)).keep (w':=w) hz (fun b hb hl=>hk b hb.1.1 hl)).mono (fun b hb _=>⟨hb.1.1,fun y hy=> ?_⟩);rcases List.mem_or_eq_of_mem_set hy with hy|rfl
    ·exact hb.1.2 y hy
    ·intro e;have:=(zaj hown e).1;have:=hb.2;omega
 ·rcases za0 hu with⟨rfl,_,rfl⟩|⟨hik,hu'⟩
  ·rcases za0 hx with⟨rfl,_,_⟩|⟨hlk,hx'⟩
   ·rfl
   ·have:=(zaj hown hug).1
    have:=h.lt hx' hxg
    omega
  ·rcases za0 hx with⟨rfl,_,rfl⟩|⟨hlk,hx'⟩
   ·have:=(zaj hown hxg).1
    have:=h.lt hu' hug
    omega
   ·exact h.apart i l u x g hu' hx' hug hxg
theorem zdp.dat {w:World} {G:Nat→Prop} {k:Nat} {vs:List Value} {rs:List zdx} {v:Value} {r:zdx} (h:zdp w G vs rs) (hv:vs[k]? =some v) (hr:rs[k]? =some r):DAt w G v (.row r.size r.es):=by
 obtain⟨hq,cs,ho,hc⟩:=h.own k v r hv hr;refine(zli (G:=zkY G vs) rfl (h.wide k r hr) ho hc).mono (fun b hb _=> ?_);rcases hb with hb|hb
 ·exact hb.1
 ·exact hq b hb
theorem zdp.none (w:World) (G:Nat→Prop) (l:List (TypeId×Nat)):zdp w G (l.map fun _=> .slice none 0 0) (l.map fun p=>⟨p.1,p.2,[]⟩):=by
 refine⟨by simp,fun k r hr e he=> ?_,fun k v r hv hr=> ?_,fun k l' u v g hu _ hg _=> ?_⟩
 ·rw[List.getElem?_map] at hr
  obtain⟨p,_,rfl⟩:=Option.map_eq_some_iff.1 hr
  cases he
 ·rw[List.getElem?_map] at hr hv
  obtain⟨p,_,rfl⟩:=Option.map_eq_some_iff.1 hr;obtain⟨_,_,rfl⟩:=Option.map_eq_some_iff.1 hv;exact⟨(fun g h=>by cases h),[],World.ownsRow_nil _ _ _ _,.nil⟩
 ·rw[List.getElem?_map] at hu
  obtain⟨_,_,rfl⟩:=Option.map_eq_some_iff.1 hu
  cases hg
structure XS (rb:Nat) (ts:List Tok) (W:World) (G:Nat→Prop) (xb yb:Nat) (T:TypeId) (zs:List Value) (s:InS) (row vs:List Value) (rs:List zdx) (w:World):Prop where
 rin:RIn rb ts s w
 kept:zam (fun k=>k=rb∨G k) W w
 x:zdA rb W xb T row w
 y:zdA rb W yb T zs w
 rows:zdp w G vs rs
 ne:xb≠yb
 out: ∀b,b≤rb∨b=xb∨b=yb→ ¬G b
 new: ∀b,w.heap.size≤b→G b
section
variable {rb xb yb:Nat} {ts:List Tok} {W w w':World} {G:Nat→Prop} {T:TypeId} {zs row vs:List Value} {rs:List zdx} {s s':InS}
theorem XS.call (h:XS rb ts W G xb yb T zs s row vs rs w) (hr:RIn rb ts s' w') (hk:zam (fun k=>k=rb) w w'):XS rb ts W G xb yb T zs s' row vs rs w':=
 ⟨hr,h.kept.trans2 hk (fun _ _ e=> .inl e),h.x.call hk,h.y.call hk,h.rows.keep hk.size (fun b hb hl=>hk.block b hl (fun e=>h.out b (.inl (by omega)) hb)),h.ne,h.out,fun b hb=>h.new b (Nat.le_trans hk.size hb)⟩
theorem XS.put (h:XS rb ts W G xb yb T zs s row vs rs w) (i:Nat) (v:Value):XS rb ts W G xb yb T zs s (row.set i v) vs rs (w.setCell ⟨xb,i,none⟩ v):=
 ⟨h.rin.far (p:=⟨xb,i,none⟩) h.x.low v,h.kept.setCell (p:=⟨xb,i,none⟩) (.inr h.x.big) v,h.x.put i v,h.y.far (p:=⟨xb,i,none⟩) h.ne v,h.rows.keep (by simp[World.setCell]) (fun b hb _=>Below.heap_setCell _ _ _ _ (fun e=>h.out b (.inr (.inl e)) hb)),h.ne,h.out,fun b hb=>h.new b (by simpa [World.setCell] using hb)⟩
theorem XS.drew (h:XS rb ts W G xb yb T zs s row vs rs w):XS rb ts W G xb yb T zs s row vs rs w.drew:=
 ⟨h.rin.kept ((zam.refl (fun _=>False) w).drew) (fun _ _=>not_false),h.kept.drew,⟨h.x.at_,h.x.big,h.x.low⟩,⟨h.y.at_,h.y.big,h.y.low⟩,h.rows.keep (Nat.le_refl _) (fun _ _ _=>rfl),h.ne,h.out,h.new⟩
theorem XS.later (h:XS rb ts W G xb yb T zs s row vs rs w) (hb:Below w.heap.size w w'):XS rb ts W G xb yb T zs s row vs rs w':=
 ⟨h.rin.below hb,h.kept.trans (zbQ hb),h.x.below hb,h.y.below hb,h.rows.keep hb.size (fun b _ hl=>hb.block b hl),h.ne,h.out,fun b hb'=>h.new b (Nat.le_trans hb.size hb')⟩
theorem XS.push {w1 w2:World} {k i:Nat} {v v':Value} {r:zdx} {f:List Dat} {cs news:List Value} (h:XS rb ts W G xb yb T zs s row vs rs w) (hb:Below w.heap.size w w1) (hv:vs[k]? =some v) (hr:rs[k]? =some r) (hf:f.length=r.size)
 (hc:zaf w (zkY G vs) cs r.es.flatten) (hnew:zaf w1 (zkY G vs) news f) (hown:w2.ownsRow 0 r.t r.size v' (r.es.length+1) (cs++news)) (hg:w1.grownBy w2 v.ownBlock) (hat:v'.ownBlock=v.ownBlock∨v'.ownBlock=some w1.heap.size):
 XS rb ts W G xb yb T zs s (row.set i v') (vs.set k v') (rs.set k ⟨r.t,r.size,r.es++[f]⟩) (w2.setCell ⟨xb,i,none⟩ v'):=by
 have h1:=h.later hb;obtain⟨hq,_⟩:=h.rows.own k v r hv hr;have hK:zam (fun b=>G b) w1 w2:=⟨hg.os,hg.tape,hg.output,hg.size,fun b hl hn=>hg.block b hl (fun e=>hn (hq b e.symm))⟩;have hfar: ∀b,b≤rb∨b=xb∨b=yb→b<w1.heap.size→w2.heap[b]? =w1.heap[b]? :=fun b hb hl=>hK.block b hl (h.out b hb)
 have hR:=h1.rows.push h1.new hv hr hf (hc.below hb) hnew hown hg hat;have h2:XS rb ts W G xb yb T zs s row (vs.set k v') (rs.set k ⟨r.t,r.size,r.es++[f]⟩) w2:=⟨h1.rin.kept hK (fun b hb=>h.out b (.inl hb)),h1.kept.trans2 hK (fun _ _ hb=> .inr hb),⟨(hfar xb (.inr (.inl rfl)) h1.x.lt).trans h1.x.at_,h1.x.big,h1.x.low⟩,⟨(hfar yb (.inr (.inr rfl)) h1.y.lt).trans h1.y.at_,h1.y.big,h1.y.low⟩,hR,h.ne,h.out,fun b hb=>h1.new b (Nat.le_trans hg.size hb)⟩;exact h2.put i v'
theorem XS.assign {k i:Nat} {v':Value} {r':zdx} {cs:List Value} (h:XS rb ts W G xb yb T zs s row vs rs w) (hr:RIn rb ts s' w') (hk:zam (fun k=>k=rb) w w') (hw: ∀e∈r'.es,e.length=r'.size) (hown:w'.ownsRow w.heap.size r'.t r'.size v' r'.es.length cs)
 (hc:zaf w' (fun b=>w.heap.size≤b∧v'.ownBlock≠some b) cs r'.es.flatten):XS rb ts W G xb yb T zs s' (row.set i v') (vs.set k v') (rs.set k r') (w'.setCell ⟨xb,i,none⟩ v'):=by
 have h1:=h.call hr hk;have h2:XS rb ts W G xb yb T zs s' row (vs.set k v') (rs.set k r') w':=⟨h1.rin,h1.kept,h1.x,h1.y,h.rows.assign h.new hk.size (fun b hb hl=>hk.block b hl (fun e=>h.out b (.inl (by omega)) hb)) hw hown hc,h1.ne,h1.out,h1.new⟩;exact h2.put i v'
end
theorem zaf.set {w:World} {G:Nat→Prop} {vs:List Value} {ds:List Dat} (h:zaf w G vs ds) {p:Addr} (hp: ∀b,G b→b≠p.block) (u:Value):zaf (w.setCell p u) G vs ds:=
 h.keep (by simp[World.setCell]) (fun b hb _=>Below.heap_setCell _ _ _ _ (hp b hb))
theorem zdA.ten {u0 u1 u2 u3 u4 u5 u6 u7 u8 u9:Value} {rb xb:Nat} {W w:World} {T:TypeId} (h:zdA rb W xb T [u0,u1,u2,u3,u4,u5,u6,u7,u8,u9] w):
 w.cell? ⟨xb,0,none⟩=some u0∧w.cell? ⟨xb,1,none⟩=some u1∧w.cell? ⟨xb,2,none⟩=some u2∧w.cell? ⟨xb,3,none⟩=some u3∧w.cell? ⟨xb,4,none⟩=some u4∧w.cell? ⟨xb,5,none⟩=some u5∧w.cell? ⟨xb,6,none⟩=some u6∧w.cell? ⟨xb,7,none⟩=some u7∧w.cell? ⟨xb,8,none⟩=some u8∧w.cell? ⟨xb,9,none⟩=some u9:=
 ⟨(h.fact 0 rfl).1,(h.fact 1 rfl).1,(h.fact 2 rfl).1,(h.fact 3 rfl).1,(h.fact 4 rfl).1,(h.fact 5 rfl).1,(h.fact 6 rfl).1,(h.fact 7 rfl).1,(h.fact 8 rfl).1,(h.fact 9 rfl).1⟩
theorem zdA.cold {rb xb:Nat} {W w:World} {T:TypeId} {row:List Value} (h:zdA rb W xb T row w) (i:Nat):w.frozen? ⟨xb,i,none⟩=false:=frozen_of_row _ _ i _ _ h.at_
theorem zod (w:World) (G:Nat→Prop) (l:List Int):zaf w G (l.flatMap fun n=>[Value.int .i64 n]) (zbs l).flatten:=by
 have e:(zbs l).flatten=(l.flatMap fun n=>[Value.int .i64 n]).map Dat.leaf:=by
  induction l with
  |nil=>rfl
  |cons a l ih=>simp only[zbs,List.map_cons,List.flatten_cons,List.flatMap_cons,List.map_append] at *;rw[ih];rfl
 rw[e];exact zbt _
def znl (rb n:Nat) (w:World):Nat:=if((w.cell? ⟨rb,4,none⟩).map intOf).getD 0=0 then n-(((w.cell? ⟨rb,1,none⟩).map intOf).getD 0).toNat+1 else 0
theorem zog {rb:Nat} {ts:List Tok} {s:InS} {w:World} (h:RIn rb ts s w):znl rb ts.length w=if s.err=0 then s.r.length+1 else 0:=by
 obtain⟨j,hj,hd,h1⟩:=h.now;unfold znl;rw[h.err,h1,hd];by_cases he:s.err=0
 ·simp[he,intOf]
 ·rw[if_neg he,if_neg (by simp[intOf];omega)]
def zoh (b i:Nat) (w:World):Nat:=((w.cell? ⟨b,i,none⟩).map zlg).getD 0
theorem zo1 {b i:Nat} {w:World} {v:Value} (h:w.cell? ⟨b,i,none⟩=some v):zoh b i w=zlg v:=by unfold zoh;rw[h];rfl
end Go.Proofs.YtlngbjphagnloaaGreatDoor
